/- What the row rests on, part 3: a calculus of assertions, walks of functions over it, and plain laws. Conditions: none. -/
import Derived.Deep.QuietTactic
import Derived.BigQuiet
import Derived.WalkKit
import Derived.Test.YtpjjmbmmfelooaaGreatProg
import Derived.OrdersHeld
import Derived.Shelf.SortM.SortNone
import Derived.Shelf.SortM.Plain
import Derived.Ground.SlgmProg
import Derived.Shelf.SlIterI.Nil
import Derived.Ground.GgzProg
import Derived.Maps.RangeRun
import Derived.Laws.BytesArg
import Derived.RangeFuncRecord
import Derived.TacticsIn
import Derived.Deep.Slices
import Derived.OpenShut
import Derived.ChangeArms
import Derived.SizedLaws
import Derived.ChangeSame
import Derived.Test.YtpjjmbmmfelooaaGreatRows
import Derived.Sort.QuietThIn
import Derived.ScopeJumps
import Derived.LaidEqlPtr
import Derived.Lib.Builder
import Derived.Lib.UnsafeStr
import Derived.Laws.Strings
import Derived.Test.YtpjjmbmmfelooaaGreatMg2
set_option linter.unusedVariables false
set_option linter.unusedSimpArgs false
set_option maxRecDepth 100000
set_option maxHeartbeats 4000000
namespace Go.Vl
open Go Go.Proofs Go.Proofs.Tryz
def insB (n:Nat)(p m:Int):Bool:=decide (0<=p/\ 0<=m/\ p<=(n:Int)*64/\ m<=(n:Int)*64-p)
theorem insB_rdy {n:Nat}{p m:Int}:insB n p m=true↔rdy n false p m=0:=by
  unfold insB rdy
  simp only [decide_eq_true_eq,Bool.false_eq_true,if_false]
  constructor
  . intro h;rw [if_neg oqz]
  intro h
  by_cases hc:p<0∨m<0∨(n:Int)*64<p∨(n:Int)*64-p<m
  . rw [if_pos hc] at h;exact absurd h (by decide)
  omega
theorem stE_off {s:DevS}(h:stE s≠0):s.off=true:=by
  unfold stE at h;by_cases e:s.off=true
  . exact e
  rw [if_neg e] at h;exact absurd rfl h
theorem stE_on {s:DevS}(h:stE s=0):s.off=false:=by
  unfold stE at h;by_cases e:s.off=true
  . rw [if_pos e] at h;exact absurd h (by decide)
  simpa using e
theorem layS_len' (p v:Nat)(s:DevS):(layS p v s).ls.length=s.ls.length:=(onLine_fields _ _ s).2.2.2.2
theorem storeF_len:∀ (f p:Nat) (b:List Nat) (s:DevS),(storeF f p b s).2.ls.length=s.ls.length
  |0,_,_,_=>rfl
  |f+1,p,b,s=>by
    unfold storeF
    split
    . rfl
    split
    . rw [doneS_len,layS_len']
    rw [storeF_len,doneS_len,layS_len']
theorem sto_len (p:Int)(b:List Nat)(s:DevS):(sto p b s).2.ls.length=s.ls.length:=by
  unfold sto
  split
  . rfl
  exact storeF_len _ _ _ _
theorem st8_len (p:Int)(v:Nat)(s:DevS):(st8 p v s).2.ls.length=s.ls.length:=by
  unfold st8
  split
  . rfl
  split
  . rfl
  rw [doneS_len,layS_len']
theorem st8_rdy {p:Int}{v:Nat}{s:DevS}(h:(st8 p v s).1=0):rdy s.ls.length s.off p 8=0:=by
  unfold st8 at h
  split at h
  . exact h
  rename_i h2;exact Classical.not_not.1 h2
def rangeP (p m:Int)(s:DevS):Int×DevS:=if s.off=true then (5,s) else if m<1 then (0,s) else if rdy s.ls.length false p m≠0 then (6,s) else lastS p.toNat m.toNat s
def bytesP (p:Int)(b:List Nat)(s:DevS):Int×DevS:=if s.off=true then (5,s) else if b=[] then (0,s) else if (sto p b s).1≠0 then sto p b s else lastS p.toNat b.length (sto p b s).2
def pubP (p:Int)(v:Nat)(s:DevS):Int×DevS:=if (st8 p v s).1≠0 then st8 p v s else lastS p.toNat 8 (st8 p v s).2
def loadP (p:Int)(n:Nat)(s:DevS):Nat×Int:=if rdy s.ls.length s.off p n≠0 then (0,rdy s.ls.length s.off p n) else (nm (((imgS s).drop p.toNat).take n),0)
def wordP (p:Int)(s:DevS):Nat×Int:=if s.off=true then (0,5) else if p%8≠0 then (0,6) else loadP p 8 s
attribute [local irreducible] Sl pt ro Dev imgS
theorem Zjv {p r:Prop}(k:r)(h:Kq r->p:=by intro k;refine Zbz ?_;refine tv (o_geq rfl rfl) ?_;exact k.o):p:=h ⟨k⟩
theorem Z7 {p r:Prop}(k:r)(h:Kq r->p:=by intro k;refine tv (o_pick_t rfl wqz) ?_;refine tlm ?_;exact k.o):p:=h ⟨k⟩
theorem Zdj {p r:Prop}(k:r)(h:Kq r->p:=by intro k;refine tlm ?_;refine tv (by first|exact o_subI rfl rfl oqz|exact o_sub rfl rfl) ?_;exact k.o):p:=h ⟨k⟩
theorem Ze6 {p r:Prop}(k:r)(h:Kq r->p:=by intro k;refine tv (o_pick_t rfl wqz) ?_;refine Zd ?_;exact k.o):p:=h ⟨k⟩
theorem Zd5 {p r:Prop}(k:r)(h:Kq r->p:=by intro k;refine tv (o_pick_f rfl wqz) ?_;refine Zd ?_;exact k.o):p:=h ⟨k⟩
theorem Z1 {p r:Prop}(k:r)(h:Kq r->p:=by intro k;refine tv (o_pick_f rfl wqz) ?_;refine tlm ?_;exact k.o):p:=h ⟨k⟩
theorem inside_c {A R:SP}{C:SP->SP}{d:Nat}{s:DevS}(hc:Ct A (Dev d s) R C:=by exact cbqz){p m:Int}(hp: -9223372036854775808<=p/\ p<=9223372036854775807:=by omega)(hm: -9223372036854775808<=m/\ m<=9223372036854775807:=by omega):
    Fn Tryz.prog 212 #[pz d,.int .i64 p,.int .i64 m] A (λ r B=>r= .bool (insB s.ls.length p m)/\ A=B):=by
  refine fn_enterW func212 rfl ntmps212 (by simp) ?_;refine tc_have (λ _ _ h=>ct_wf2 hc h) λ hw=> ?_
  have htop:=hw.top;refine Zjv ?_;refine tlm ?_;refine tl_bool (d:=9) rfl (sbq ?_) (sbq ?_)
  . intro h;refine tlm ?_;refine tv (o_geq rfl rfl) ?_;refine Z7 ?_;refine tl_bool (d:=13) rfl (sbq ?_) (sbq ?_)
    . intro h;refine Z2 ?_;refine tl_c rfl (o_call bd104 rfl (Size_c hc)) ?_;rintro _ _ ⟨rfl,rfl⟩;refine tv (o_leq rfl rfl) ?_;refine Z7 ?_;refine tl_bool (d:=19) rfl (sbq ?_) (sbq ?_)
      . intro h;refine Z2 ?_;refine tl_c rfl (o_call bd104 rfl (Size_c hc)) ?_;rintro _ _ ⟨rfl,rfl⟩;refine Zdj ?_;refine tv (o_leq rfl rfl) ?_;refine Ze6 ?_;exact ⟨_,A,res1 rfl rfl,λ _ _ h=>h,congrArg Value.bool (by rw [Bool.eq_iff_iff];simp [insB];omega),rfl⟩
      intro h;refine Zdl ?_;refine Zd5 ?_;exact ⟨_,A,res1 rfl rfl,λ _ _ h=>h,congrArg Value.bool (by rw [Bool.eq_iff_iff];simp [insB];omega),rfl⟩
    intro h;refine Z8 ?_;refine Z1 ?_;refine Zdl ?_;refine Zd5 ?_;exact ⟨_,A,res1 rfl rfl,λ _ _ h=>h,congrArg Value.bool (by rw [Bool.eq_iff_iff];simp [insB];omega),rfl⟩
  intro h;refine Zh ?_;refine Z1 ?_;refine Z8 ?_;refine Z1 ?_;refine Zdl ?_;refine Zd5 ?_;exact ⟨_,A,res1 rfl rfl,λ _ _ h=>h,congrArg Value.bool (by rw [Bool.eq_iff_iff];simp [insB];omega),rfl⟩
theorem Zc6 {p r:Prop}(k:r)(h:Kq r->p:=by intro k;refine Zc ?_;refine Zb ?_;exact k.o):p:=h ⟨k⟩
theorem Range_c {A R:SP}{C:SP->SP}{d:Nat}{s:DevS}(hc:Ct A (Dev d s) R C:=by exact cbqz){p m:Int}(hp: -9223372036854775808<=p/\ p<=9223372036854775807:=by omega)(hm: -9223372036854775808<=m/\ m<=9223372036854775807:=by omega):
    Fn Tryz.prog 167 #[pz d,.int .i64 p,.int .i64 m] A (λ r B=>∃e s2,rangeP p m s=(e,s2)/\ r= .int .i64 e/\ B=C (Dev d s2)):=by
  refine fn_enterW func167 rfl ntmps167 (by simp) ?_;refine tc_have (λ _ _ h=>ct_wf2 hc h) λ hw=> ?_
  obtain ⟨rfl,hC⟩:=hc;have htop:=hw.top;have hpos:=hw.pos;have hAC:∀g w,sat g w (R*Dev d s)->sat g w (C (Dev d s)):=λ g w h=>by rw [hC];exact h
  refine Zcl ?_;refine tl_c rfl (o_call bd208 rfl (alive_c (s:=s))) ?_;refine Zgd ?_;refine tc_cond rfl (sbq ?_) (λ h=> ?_)
  . intro h;refine Zge ?_;exact ⟨.int .i64 (stE s),C (Dev d s),res1 rfl rfl,hAC,stE s,s,by have ho:=stE_off h;unfold rangeP stE;rw [if_pos ho,if_pos ho],rfl,rfl⟩
  have ho:s.off=false:=stE_on (by simpa using h);refine Zdf ?_;refine Zn ?_;refine tc_cond rfl (sbq ?_) (sbq ?_)
  . intro h;refine Zb6 ?_;exact ⟨.int .i64 0,C (Dev d s),res1 rfl rfl,hAC,0,s,by unfold rangeP;rw [if_neg (by rw [ho];decide),if_pos h],rfl,rfl⟩
  intro h;refine Zdf ?_;refine Z2 ?_;refine tl_c rfl (o_call bd212 rfl (inside_c (s:=s) (p:=p) (m:=m))) ?_;refine Zim ?_;refine tc_cond rfl (sbq ?_) (λ h=> ?_)
  . intro h;refine Zb6 ?_;exact ⟨.int .i64 6,C (Dev d s),res1 rfl rfl,hAC,6,s,by unfold rangeP;rw [if_neg (by rw [ho];decide),if_neg oqz,if_pos (λ e=>by rw [insB_rdy.2 e] at h;cases h)],rfl,rfl⟩
  have hr:rdy s.ls.length false p m=0:=insB_rdy.1 (by simpa using h);have hr2:=rdy0 hr;obtain ⟨q,rfl⟩:=Int.eq_ofNat_of_zero_le hr2.2.1;obtain ⟨k,rfl⟩:=Int.eq_ofNat_of_zero_le hr2.2.2.1;refine Zc6 ?_;refine Z2 ?_;refine tl_c rfl (o_call bd213 rfl (Rg.last_c (s:=s) (p:=q) (m:=k))) ?_;rintro _ _ ⟨e23,s23,hs23,rfl,rfl⟩;refine Zd ?_;exact ⟨.int .i64 e23,C (Dev d s23),res1 rfl rfl,λ _ _ h=>by rw [hC];exact h,e23,s23,by unfold rangeP;rw [if_neg (by rw [ho];decide),if_neg oqz,if_neg (by simpa using hr)];exact hs23,rfl,rfl⟩
theorem Zkz {p r:Prop}(k:r)(h:Kq r->p:=by intro k;refine Zep ?_;refine Zl ?_;exact k.o):p:=h ⟨k⟩
theorem Publish_c {A R:SP}{C:SP->SP}{d:Nat}{s:DevS}(hc:Ct A (Dev d s) R C:=by exact cbqz){v:Nat}{p:Int}(hp: -9223372036854775808<=p/\ p<=9223372036854775807:=by omega)(hv:v<18446744073709551616:=by omega)(hroom:Room 1 s:=by assumption):
    Fn Tryz.prog 168 #[pz d,.int .i64 p,.int .u64 (v:Nat)] A (λ r B=>∃e s2,pubP p v s=(e,s2)/\ r= .int .i64 e/\ B=C (Dev d s2)):=by
  refine fn_enterW func168 rfl ntmps168 (by simp) ?_;refine tc_have (λ _ _ h=>ct_wf2 hc h) λ hw=> ?_
  obtain ⟨rfl,hC⟩:=hc;have htop:=hw.top;have hpos:=hw.pos;have hAC:∀g w,sat g w (R*Dev d s)->sat g w (C (Dev d s)):=λ g w h=>by rw [hC];exact h
  refine Zcl ?_;refine Z2 ?_;refine tl_c rfl (o_call bd214 rfl (Store8_c (s:=s) (p:=p) (v:=v))) ?_;rintro _ _ ⟨e11,s11,hs11,rfl,rfl⟩;refine Zkz ?_;refine tc_cond rfl (sbq ?_) (λ h=> ?_)
  . intro h;refine Zge ?_;exact ⟨.int .i64 e11,C (Dev d s11),res1 rfl rfl,λ _ _ h=>by rw [hC];exact h,e11,s11,by unfold pubP;rw [hs11,if_pos (by simpa using h)],rfl,rfl⟩
  obtain rfl:e11=0:=by simpa using h
  have hrd:=rdy0 (st8_rdy (by rw [hs11]));have hsl:=st8_len p v s;rw [hs11] at hsl
  simp only at hsl
  obtain ⟨q,rfl⟩:=Int.eq_ofNat_of_zero_le hrd.2.1;refine Zgr ?_;refine tl_c rfl (o_call bd213 rfl (Rg.last_c (s:=s11) (p:=q) (m:=8))) ?_;rintro _ _ ⟨e17,s17,hs17,rfl,rfl⟩;refine Zd ?_;exact ⟨.int .i64 e17,C (Dev d s17),res1 rfl rfl,λ _ _ h=>by rw [hC];exact h,e17,s17,by unfold pubP;rw [hs11,if_neg (by simp)];exact hs17,rfl,rfl⟩
end Go.Vl

namespace Go.Vl
open Go Go.Proofs Go.Proofs.Tryz
def NoD (A:SP)(v:Value):Prop:=v= .pointer none∨∃b,v=(pz b)/\ Cell A b 0 (.slice none 0 0)
theorem NoD.left {A X:SP}{v:Value}(h:NoD A v):NoD (A*X) v:=h.imp id λ ⟨b,e,hc⟩=>⟨b,e,hc.left⟩
theorem noneN_f {A:SP}:
    Fn Tryz.prog 103 #[.pointer none] A (λ r B=>r= .bool true/\ A=B):=by
  refine fn_enterW func103 rfl ntmps103 (by simp) ?_;refine Zbz ?_;refine tv (o_eqp underlying47 rfl rfl) ?_;refine tlm ?_;refine tl_bool (d:=5) rfl (sbq ?_) dbq;intro h;refine Zdl ?_;refine Ze6 ?_;exact ⟨_,_,res1 rfl rfl,λ _ _ h=>h,rfl,rfl⟩
theorem Zw {p r:Prop}(k:r)(h:Kq r->p:=by intro k;refine tlm ?_;refine tv (o_nilCheck rfl) ?_;exact k.o):p:=h ⟨k⟩
theorem noneE_f {A:SP}{b:Nat}(hc:Cell A b 0 (.slice none 0 0)):
    Fn Tryz.prog 103 #[pz b] A (λ r B=>r= .bool true/\ A=B):=by
  refine fn_enterW func103 rfl ntmps103 (by simp) ?_;refine Zbz ?_;refine tv (o_eqp underlying47 rfl rfl) ?_;refine tlm ?_;refine tl_bool (d:=5) rfl dbq (sbq ?_);intro h;refine Zw ?_;refine tv (o_fieldAddr (o:=0) underlying97 rfl rfl sz94 rfl) ?_;refine tv (o_loadC p94 rfl hc) ?_;refine tv (o_len underlying94 rfl) ?_;refine tv (o_eqi rfl rfl) ?_;refine Zd5 ?_;exact ⟨_,_,res1 rfl rfl,λ _ _ h=>h,rfl,rfl⟩
theorem noneZ_c {A:SP}{v:Value}(h0:NoD A v:=by assumption):Fn Tryz.prog 103 #[v] A (λ r B=>r= .bool true/\ A=B):=by
  rcases h0 with rfl|⟨b,rfl,hc⟩
  . exact noneN_f
  exact noneE_f hc
theorem SizeZ_c {A:SP}{v:Value}  (h0:NoD A v:=by assumption):
    Fn Tryz.prog 104 #[v] A (λ r B=>r= .int .i64 0/\ A=B):=by
  refine fn_enterW func104 rfl ntmps104 (by simp) ?_;refine Zcl ?_;refine tl_c rfl (o_call bd103 rfl (noneZ_c)) ?_;rintro _ _ ⟨rfl,rfl⟩;refine Zdt ?_;intro h;refine Zb6 ?_;exact ⟨_,_,res1 rfl rfl,λ _ _ h=>h,rfl,rfl⟩
theorem img_lt {s:DevS}:∀x∈imgS s,x<256:=λ x hx=>by
  unfold imgS img at hx
  obtain ⟨l,_,h⟩:=List.mem_flatMap.1 hx
  unfold lb at h
  obtain ⟨v,_,h⟩:=List.mem_flatMap.1 h;exact le_bytes _ _ _ h
theorem imgS_len {s:DevS}(hw:WfD s):(imgS s).length=s.ls.length*64:=img_length hw.line
theorem img_sub {s:DevS}{p n:Nat}:∀x∈((imgS s).drop p).take n,x<256:=λ x hx=>img_lt x (List.mem_of_mem_drop (List.mem_of_mem_take hx))
theorem nm_take0 (xs:List Nat)(n:Nat):nm (((xs.take n).drop 0).take n)=nm (xs.take n):=by rw [List.drop_zero,List.take_take,Nat.min_self]
attribute [local irreducible] Sl pt ro Dev imgS
theorem Zhx {p r:Prop}(k:r)(h:Kq r->p:=by intro k;refine tm 1 rfl kqz rfl (o_fieldAddr (o:=0) underlying283 rfl rfl sz3 rfl) ?_;refine tm 2 rfl kqz rfl (by first|exact o_load p3 rfl hsqz rfl|exact o_loadC p3 rfl (by assumption)) ?_;exact k.o):p:=h ⟨k⟩
theorem Zjd {p r:Prop}(k:r)(h:Kq r->p:=by intro k;refine ⟨by repeat (first|with_reducible exact dr_refl|apply dr_keep|apply dr_drop), ?_⟩;refine tm 5 rfl kqz rfl (o_len underlying57 rfl) ?_;exact k.o):p:=h ⟨k⟩
theorem Zfs {p r:Prop}(k:r)(h:Kq r->p:=by intro k;refine tm 11 rfl kqz rfl (o_assign wqz) ?_;refine Zba ?_;exact k.o):p:=h ⟨k⟩
theorem Zk0 {p r:Prop}(k:r)(h:Kq r->p:=by intro k;refine Zi ?_;refine Zc4 ?_;exact k.o):p:=h ⟨k⟩
theorem FL64_ok {A R:SP}{C:SP->SP}{d:Nat}{s:DevS}(hc:Ct A (Dev d s) R C:=by exact cbqz){p:Nat}(hoff:s.off=false)(hpm:p+8<=s.ls.length*64):
    Fn Tryz.prog 209 #[.agg [Value.int .i64 (p:Nat)].toArray,pz d] A (λ r B=>r= .tuple #[.int .u64 ((nm (((imgS s).drop p).take 8):Nat):Int),.int .i64 0]/\ A=B):=by
  refine fn_enterW func209 rfl ntmps209 (by simp) ?_;refine tc_have (λ _ _ h=>ct_wf2 hc h) λ hw=> ?_
  obtain ⟨rfl,hC⟩:=hc;have htop:=hw.top;have hil:(imgS s).length=s.ls.length*64:=imgS_len hw;have hI:(((imgS s).drop p).take 8).length=8:=(by rw [List.length_take,List.length_drop];omega);have hIb:=img_sub (s:=s) (p:=p) (n:=8);refine Zeu ?_;rintro _ _ ⟨b2,rfl,rfl⟩;refine Z0 ?_;refine Zj ?_;refine tc_seq ?_;refine tc_regh mo dr_refl ?_
  show TH _ _ _ _ _ 12 (Array.replicate 12 false) _ _
  refine tm 0 rfl kqz rfl (o_move wqz) ?_;refine Zhx ?_;refine tm 3 rfl kqz rfl (o_move wqz) ?_;refine th_one (i:=4) kqz ?_;refine oh_c rfl rfl rfl (o_call bd169 rfl (Put64_c (xs:=[]) (v:=0))) ?_;rintro _ _ ⟨a14,c14,rfl,hc14,rfl⟩;refine Zjd ?_;refine th_one (i:=6) kqz ?_;refine oh_c rfl rfl rfl (o_call bd110 rfl (Load_c (s:=s) (p:=p) (m:=8))) ?_;rintro _ _ ⟨a16,c16,rfl,hc16,rfl⟩;refine ⟨by repeat (first|with_reducible exact dr_refl|apply dr_keep|apply dr_drop), ?_⟩;refine tm 7 rfl kqz rfl (o_move wqz) ?_;refine tm 8 rfl kqz rfl (o_extract rfl rfl) ?_;refine tm 9 rfl kqz rfl (o_extract rfl rfl) ?_;refine tm 10 rfl kqz rfl (o_assign wqz) ?_;refine Zfs ?_;refine Ze ?_;refine Zck ?_;intro h;refine Zc6 ?_;refine tl_c rfl (o_call bd114 rfl (Take64_c (xs:=((imgS s).drop p).take 8) (p:=0) (hm:=hI))) ?_;rintro _ _ ⟨rfl,rfl⟩;refine Zk0 ?_;exact ⟨.tuple #[.int .u64 ((nm (((imgS s).drop p).take 8):Nat):Int),.int .i64 0],R*Dev d s,res2 rfl (congrArg (λ z:Nat=>Value.int .u64 (z:Int)) (nm_take0 _ _)) rfl,Dr.sat drqz,rfl,rfl⟩
theorem Zb8 {p r:Prop}(k:r)(h:Kq r->p:=by intro k;refine tla ?_;refine Zr ?_;exact k.o):p:=h ⟨k⟩
theorem Ze1 {p r:Prop}(k:r)(h:Kq r->p:=by intro k;refine Zb ?_;refine Zb8 ?_;exact k.o):p:=h ⟨k⟩
theorem FL64_no {A R:SP}{C:SP->SP}{d:Nat}{s:DevS}(hc:Ct A (Dev d s) R C:=by exact cbqz){p:Int}(hp: -9223372036854775808<=p/\ p<=9223372036854775807:=by omega)(hno:rdy s.ls.length s.off p 8≠0):
    Fn Tryz.prog 209 #[.agg [Value.int .i64 p].toArray,pz d] A (λ r B=>r= .tuple #[.int .u64 0,.int .i64 (rdy s.ls.length s.off p 8)]/\ A=B):=by
  refine fn_enterW func209 rfl ntmps209 (by simp) ?_;obtain ⟨rfl,hC⟩:=hc;refine Zeu ?_;rintro _ _ ⟨b2,rfl,rfl⟩;refine Z0 ?_;refine Zj ?_;refine tc_seq ?_;refine tc_regh mo dr_refl ?_
  show TH _ _ _ _ _ 12 (Array.replicate 12 false) _ _
  refine tm 0 rfl kqz rfl (o_move wqz) ?_;refine Zhx ?_;refine tm 3 rfl kqz rfl (o_move wqz) ?_;refine th_one (i:=4) kqz ?_;refine oh_c rfl rfl rfl (o_call bd169 rfl (Put64_c (xs:=[]) (v:=0))) ?_;rintro _ _ ⟨a14,c14,rfl,hc14,rfl⟩;refine Zjd ?_;refine th_one (i:=6) kqz ?_;refine oh_c rfl rfl rfl (o_call bd110 rfl (LoadNo_c (s:=s) (p:=p) (m:=8))) ?_;refine Zt ?_;refine tm 7 rfl kqz rfl (o_move wqz) ?_;refine tm 8 rfl kqz rfl (o_extract rfl rfl) ?_;refine tm 9 rfl kqz rfl (o_extract rfl rfl) ?_;refine tm 10 rfl kqz rfl (o_assign wqz) ?_;refine Zfs ?_;refine Ze ?_;refine Zl ?_;refine tc_cond rfl (sbq ?_) (λ h=> ?_)
  . intro h;refine Ze1 ?_;exact ⟨.tuple #[.int .u64 0,.int .i64 (rdy s.ls.length s.off p 8)],R*Dev d s,res2 rfl rfl rfl,Dr.sat drqz,rfl,rfl⟩
  exfalso;exact hno (by simpa using h)
theorem FL64_c {A R:SP}{C:SP->SP}{d:Nat}{s:DevS}(hc:Ct A (Dev d s) R C:=by exact cbqz){p:Int}(hp: -9223372036854775808<=p/\ p<=9223372036854775807:=by omega):Fn Tryz.prog 209 #[.agg [Value.int .i64 p].toArray,pz d] A (λ r B=>r= .tuple #[.int .u64 (((loadP p 8 s).1:Nat):Int),.int .i64 (loadP p 8 s).2]/\ A=B):=by
  by_cases h:rdy s.ls.length s.off p 8=0
  . have h0:=rdy0 h;obtain ⟨q,rfl⟩:=Int.eq_ofNat_of_zero_le h0.2.1;have e:loadP (q:Int) 8 s=(nm (((imgS s).drop q).take 8),0):=(by unfold loadP;rw [if_neg (by simpa using h)];rfl);rw [e];exact FL64_ok hc h0.1 oqz
  have e:loadP p 8 s=(0,rdy s.ls.length s.off p 8):=(by unfold loadP;rw [if_pos (by simpa using h)];rfl);rw [e];exact FL64_no hc hp (by simpa using h)
theorem Zc3 {p r:Prop}(k:r)(h:Kq r->p:=by intro k;refine sr ?_;refine Zbx ?_;exact k.o):p:=h ⟨k⟩
theorem Zgs {p r:Prop}(k:r)(h:Kq r->p:=by intro k;refine sr ?_;refine Zb8 ?_;exact k.o):p:=h ⟨k⟩
theorem Word_c {A R:SP}{C:SP->SP}{d:Nat}{s:DevS}(hc:Ct A (Dev d s) R C:=by exact cbqz){p:Int}(hp: -9223372036854775808<=p/\ p<=9223372036854775807:=by omega):
    Fn Tryz.prog 163 #[pz d,.int .i64 p] A (λ r B=>r= .tuple #[.int .u64 (((wordP p s).1:Nat):Int),.int .i64 (wordP p s).2]/\ A=B):=by
  refine fn_enterW func163 rfl ntmps163 (by simp) ?_;refine Zc3 ?_;refine tl_c rfl (o_call bd208 rfl (alive_c hc)) ?_;refine Zgd ?_;refine tc_cond rfl (sbq ?_) (λ h=> ?_)
  . intro h;refine Ze1 ?_;have ho:=stE_off h;have e:wordP p s=(0,5):=(by unfold wordP;rw [if_pos ho]);have e2:stE s=5:=(by unfold stE;rw [if_pos ho]);rw [e]
    exact ⟨.tuple #[.int .u64 0,.int .i64 5],A,res2 rfl rfl (congrArg (Value.int .i64) e2),λ _ _ h=>h,rfl,rfl⟩
  have ho:s.off=false:=stE_on (by simpa using h);refine Zdf ?_;refine tv (o_rem rfl rfl (by decide)) ?_;refine Zl ?_;refine tc_cond rfl (sbq ?_) (sbq ?_)
  . intro h;refine Zgs ?_;have e:wordP p s=(0,6):=(by unfold wordP;rw [if_neg (by rw [ho];decide),if_pos (λ e=>h (by rw [Int.tmod_eq_zero_of_dvd (Int.dvd_of_emod_eq_zero e)]))]);rw [e]
    exact ⟨.tuple #[.int .u64 0,.int .i64 6],A,res2 rfl rfl rfl,λ _ _ h=>h,rfl,rfl⟩
  intro h;refine Zc6 ?_;refine tv (o_bS (l:=[Value.int .i64 p]) (pv_cons wqz pv_nil) underlying283 z283 (pl283 underlying283) rfl) ?_;refine tlm ?_;refine tl_c rfl (o_call bd209 rfl (FL64_c hc (p:=p))) ?_;rintro _ _ ⟨rfl,rfl⟩;refine Zk0 ?_;have e:wordP p s=loadP p 8 s:=(by unfold wordP;rw [if_neg (by rw [ho];decide),if_neg (λ e=>e (Int.emod_eq_zero_of_dvd (Int.dvd_of_tmod_eq_zero (by simpa using h))))]);rw [e]
  exact ⟨_,A,res2 rfl rfl rfl,Dr.sat drqz,rfl,rfl⟩
end Go.Vl

namespace Go.Vl
open Go Go.Proofs Go.Proofs.Tryz
theorem lb_word {s:List Nat}{r:Nat}(h:r<s.length)(t:List Nat):(((lb s++t).drop (8*r)).take 8)=le 8 s[r]:=by
  induction s generalizing r with
  |nil=>simp at h
  |cons x s ih=>
    cases r with
    |zero=>
      show (((le 8 x++lb s)++t).drop 0).take 8=le 8 x
      rw [List.drop_zero,List.append_assoc,List.take_append_of_le_length (by rw [le_length];omega),List.take_of_length_le (by rw [le_length];omega)]
    |succ r=>
      have e:8*(r+1)=(le 8 x).length+8*r:=(by rw [le_length];omega)
      show (((le 8 x++lb s)++t).drop _).take 8=_
      rw [e,List.append_assoc,←List.drop_drop,List.drop_left]
      exact ih (by simpa using h)
theorem spl_in {α:Type}{l b:List α}{q r k:Nat}(h1:r+b.length<=k)(h2:q+k<=l.length):spl l q (spl ((l.drop q).take k) r b)=spl l (q+r) b:=by
  have h3:((l.drop q).take k).length=k:=(by rw [List.length_take,List.length_drop];omega)
  apply List.ext_getElem?
  intro i;rw [spl_at (by rw [spl_length oqz];omega),spl_at oqz,spl_length oqz,h3]
  by_cases h:q<=i/\ i<q+k
  . rw [if_pos h,spl_at oqz]
    by_cases h':r<=i-q/\ i-q<r+b.length
    . rw [if_pos h',if_pos oqz];congr 1;omega
    rw [if_neg h',if_neg oqz,List.getElem?_take,if_pos oqz,List.getElem?_drop];congr 1;omega
  rw [if_neg h,spl_at oqz,if_neg oqz]
theorem spl_app {α:Type}(a l b:List α){n p q:Nat}(ha:a.length=n)(hq:q=n+p):spl (a++l) q b=a++spl l p b:=by
  subst ha hq
  unfold spl
  rw [List.take_length_add_append,Nat.add_assoc,List.drop_length_add_append]
  simp only [List.append_assoc]
theorem spl_head {α:Type}(a l b:List α)(h:a.length=b.length):spl (a++l) 0 b=b++l:=by
  unfold spl
  rw [List.take_zero,List.nil_append,Nat.zero_add,←h,List.drop_left]
theorem lb_set:∀{s:List Nat} {k v:Nat},k<s.length->lb (s.set k v)=spl (lb s) (8*k) (le 8 v)
  |x::s,0,v,_=>(spl_head (le 8 x) (lb s) (le 8 v) (by rw [le_length,le_length])).symm
  |x::s,k+1,v,h=>by
    have ih:=lb_set (s:=s) (k:=k) (v:=v) (by simpa using h)
    show le 8 x++lb (s.set k v)=_
    rw [ih]
    exact (spl_app (le 8 x) (lb s) (le 8 v) (le_length 8 x) oqz).symm
def cw (p m:Nat):Nat:=if m=0 then 0 else (p+m-1)/8-p/8+1
theorem spl_nil {α:Type}(l:List α)(p:Nat):spl l p []=l:=by simp [spl]
theorem spl_take {l b:List Nat}{p i:Nat}(hi:i<b.length)(hp:p+b.length<=l.length):(spl l p (b.take i)).set (p+i) b[i]=spl l p (b.take (i+1)):=by
  apply List.ext_getElem?
  intro j;have h1:(b.take i).length=i:=(by rw [List.length_take];omega);have h2:(b.take (i+1)).length=i+1:=(by rw [List.length_take];omega);rw [spl_at oqz,List.getElem?_set,spl_length oqz]
  by_cases hj:p+i=j
  . subst hj;rw [if_pos rfl,if_pos oqz,if_pos oqz,show p+i-p=i by omega,List.getElem?_take,if_pos oqz,List.getElem?_eq_getElem hi]
  rw [if_neg hj,spl_at oqz,h1,h2]
  by_cases h:p<=j/\ j<p+i
  . rw [if_pos h,if_pos oqz,List.getElem?_take,List.getElem?_take,if_pos oqz,if_pos oqz]
  rw [if_neg h,if_neg oqz]
def im (n:Nat):List Nat:=(List.range n).map λ i=>(i+1)%256
theorem lineF_lb {xs:List Nat}(hb:∀x∈xs,x<256){i:Nat}(hi:i*64+64<=xs.length):lb (seenL (lineF xs i))=(xs.drop (i*64)).take 64:=by
  have e:seenL (lineF xs i)=(List.replicate 8 0).mapIdx λ k _=>wordF xs i k:=(by simp [seenL,lineF])
  rw [e]
  have key:∀k,k<=8->lb (((List.replicate 8 0).mapIdx λ k _=>wordF xs i k).take k)=(xs.drop (i*64)).take (k*8):=by
    intro k
    induction k with
    |zero=>intro _;simp [lb]
    |succ k ih=>
      intro hk;rw [lb_take (by simp;omega),ih oqz]
      simp only [List.getElem_mapIdx,wordF]
      have h1:=le_nm ((xs.drop (i*64+k*8)).take 8) (λ x hx=>hb x (List.mem_of_mem_drop (List.mem_of_mem_take hx)));rw [List.length_take,List.length_drop,Nat.min_eq_left oqz] at h1
      rw [h1,show (k+1)*8=k*8+8 by omega,List.take_add,List.drop_drop]
  have:=key 8 oqz
  rwa [List.take_of_length_le (by simp)] at this
def Ag (at_:Nat)(c:List Nat)(s:DevS):Prop:=∀x,x<c.length->∀l,s.ls[(at_+x)/64]? =some l->∀σ∈l.st,(lb σ)[(at_+x)%64]? =c[x]?
def AgI (at_:Nat)(c:List Nat)(I:List Nat):Prop:=∀x,x<c.length->I[at_+x]? =c[x]?
def flsh (k q:Nat)(ls:List LineS):List LineS:=ls.mapIdx λ i l=>if q<=i/\ i<q+k then flushL l else l
def Cln (s:DevS):Prop:=∀l∈s.ls,l.st.length=1
def chunk (q:Nat)(I:List Nat):List Nat:=(I.drop (q*64)).take 64
def Poss (X:Nat->List Nat->Prop)(s:DevS):Prop:=∀ (q:Nat) (l:LineS),s.ls[q]? =some l->∀σ∈l.st,X q (lb σ)
theorem img_chk {s:DevS}(hw:WfD s){q:Nat}(hq:q<s.ls.length):chunk q (imgS s)=lb (seenL s.ls[q]):=by
  have h1:=img_at hw.line hq
  unfold chunk imgS
  rw [h1,←seen8 (hw.line _ (List.getElem_mem hq)),List.take_left]
theorem poss_img {X:Nat->List Nat->Prop}{s:DevS}(hw:WfD s)(h:Poss X s){q:Nat}(hq:q<s.ls.length):X q (chunk q (imgS s)):=by
  rw [img_chk hw hq];exact h q _ (List.getElem?_eq_getElem hq) _ (seenL_mem (hw.line _ (List.getElem_mem hq)))
theorem poss_sub {X:Nat->List Nat->Prop}{s s':DevS}(h:Poss X s)(hs:∀ (q:Nat) (l':LineS),s'.ls[q]? =some l'->∃l:LineS,s.ls[q]? =some l/\∀σ∈l'.st,σ∈l.st):Poss X s':=λ q l' hl' σ hσ=>by
  obtain ⟨l,hl,hsub⟩:=hs _ _ hl';exact h q l hl σ (hsub σ hσ)
theorem goes_sub {kp:List Int}{s:DevS}(hw:WfD s)(q:Nat)(l':LineS)(hl':(goesS kp s).ls[q]? =some l'):∃l:LineS,s.ls[q]? =some l/\ (∀σ∈l'.st,σ∈l.st)/\ l'.st.length=1:=by
  simp only [goesS,goPart,List.getElem?_mapIdx] at hl'
  cases e:s.ls[q]? with
  |none=>rw [e] at hl';cases hl'
  |some l=>
    rw [e] at hl'
    simp only [Option.map_some,Option.some.injEq] at hl'
    have hq:=(List.getElem?_eq_some_iff.1 e).1;subst hl';rw [if_pos hq]
    refine ⟨l,rfl,λ σ hσ=> ?_,rfl⟩;have hp:0<l.st.length:=List.length_pos_iff.2 (hw.line l (List.mem_of_getElem? e)).ne;have hk:=kOf_lt (keep:=kp) (i:=q) hp
    simp only [goL,List.mem_singleton] at hσ
    rw [hσ];simp [List.getD,hk]
theorem goes_poss {kp:List Int}{s:DevS}{X:Nat->List Nat->Prop}(hw:WfD s)(h:Poss X s):Poss X (goesS kp s):=poss_sub h λ q l' hl'=>by
  obtain ⟨l,h1,h2,_⟩:=goes_sub hw q l' hl';exact ⟨l,h1,h2⟩
theorem goes_cln {kp:List Int}{s:DevS}(hw:WfD s):Cln (goesS kp s):=λ l hl=>by
  obtain ⟨q,hq,rfl⟩:=List.mem_iff_getElem.1 hl;obtain ⟨_,_,_,h⟩:=goes_sub hw q _ (List.getElem?_eq_getElem hq);exact h
def Lost (X:Nat->List Nat->Prop)(n:Nat)(s:DevS):Prop:=s.off=true/\ WfD s/\ Cln s/\ Poss X s/\ s.ls.length=n
theorem done_loss {X:Nat->List Nat->Prop}{s:DevS}(hw:WfD s)(h:Poss X s):(doneE s=0/\ (doneS s).ls=s.ls/\ (doneS s).off=s.off)∨(doneE s=5/\ Lost X s.ls.length (doneS s)):=by
  have hw':=doneS_wf hw;have hl:=doneS_len s
  unfold Lost doneE doneS at*
  cases e:s.arms with
  |nil=>exact .inl ⟨rfl,rfl,rfl⟩
  |cons a ar=>
    simp only [e] at hw' hl ⊢
    by_cases c:wr64 (s.cnt+1)<a.1
    . rw [if_pos c,if_pos c];exact .inl ⟨rfl,rfl,rfl⟩
    rw [if_neg c] at hw' hl
    rw [if_neg c,if_neg c]
    have hw2:WfD { s with ops:=wr64 (s.ops+1),arms:=ar,cnt:=0 }:=by
      refine ⟨hw.pos,hw.top,hw.line, ?_, ?_, ?_⟩
      . have:=hw.arms;rw [e] at this;simp at this ⊢;omega
      . intro x hx;exact hw.after x (by rw [e];exact List.mem_cons_of_mem _ hx)
      intro x hx;exact hw.keeps x (by rw [e];exact List.mem_cons_of_mem _ hx)
    exact .inr ⟨rfl,rfl,hw',goes_cln hw2,goes_poss hw2 h,hl⟩
def Went (X:Nat->List Nat->Prop)(p m:Nat)(s s2:DevS):Prop:=s2.off=false/\ WfD s2/\ Poss X s2/\ s2.ls.length=s.ls.length/\∀q:Nat,(q+1)*64<=p∨p+m<=q*64->s2.ls[q]? =s.ls[q]?
theorem crL_app:∀{xs ys:List Nat} {r:Nat},crL r (xs++ys)=crL (crL r xs) ys
  |[],_,_=>rfl
  |x::xs,ys,r=>by show crL _ (xs++ys)=crL (crL _ xs) ys;exact crL_app
theorem crc_app {s:Nat}{xs ys:List Nat}:crc s (xs++ys)=crc (crc s xs) ys:=by
  unfold crc;rw [crL_app,Nat.xor_assoc (crL _ xs),Nat.xor_self,Nat.xor_zero]
def pad8 (n:Nat):Nat:=(8-n%8)%8
def up8 (n:Nat):Nat:=n+pad8 n
theorem up8_le (n:Nat):n<=up8 n/\ up8 n<n+8:=by unfold up8 pad8;omega
def recH (p n:Nat):List Nat:=le 8 p++le 8 n
theorem recH_len (p n:Nat):(recH p n).length=16:=by unfold recH;rw [List.length_append,le_length,le_length]
theorem recH_b (p n:Nat):∀x∈recH p n,x<256:=λ x hx=>by
  rcases List.mem_append.1 hx with h|h<;>exact le_bytes _ _ _ h
def recS (p:Nat)(old:List Nat):List Nat:=recH p old.length++le 8 (crc 0 (recH p old.length++old))++old++List.replicate (pad8 old.length) 0
theorem recS_eq (p:Nat)(old:List Nat):recS p old=recH p old.length++le 8 (crc 0 (recH p old.length++old))++old++List.replicate (pad8 old.length) 0:=rfl
theorem recS_len (p:Nat)(old:List Nat):(recS p old).length=24+up8 old.length:=by
  unfold recS up8;simp only [List.length_append,recH_len,le_length,List.length_replicate];omega
theorem recS_b {p:Nat}{old:List Nat}(h:∀x∈old,x<256):∀x∈recS p old,x<256:=λ x hx=>by
  unfold recS at hx
  rcases List.mem_append.1 hx with h1|h1
  . rcases List.mem_append.1 h1 with h2|h2
    . rcases List.mem_append.1 h2 with h3|h3
      . exact recH_b _ _ _ h3
      exact le_bytes _ _ _ h3
    exact h x h2
  rw [(List.mem_replicate.1 h1).2];decide
def needF:List Int->Int->Int×Int
  |[],s=>(s,0)
  |n::l,s=>if n<1 then (0,2) else if 9223372036854775807<n+pad8 n.toNat then (0,2) else if 9223372036854775807-24-s<n+pad8 n.toNat then (0,2) else needF l (s+24+(n+pad8 n.toNat))
def needS (l:List Int):Int×Int:=needF l 0
def mayX (n at_ sz:Nat)(x:Int×Int):Bool:=decide (1<=x.2/\ 64<=x.1/\ x.1+x.2<=n/\ (x.1+x.2<=at_∨(at_+sz:Nat)<=x.1))
structure LogW (n at_ sz:Nat):Prop where
  a:64<=at_
  am:at_%64=0
  s:128<=sz
  sm:sz%64=0
  top:at_+sz<=n
def putF:Nat->List (Int×Int)->DevS->Int×DevS
  |_,[],s=>(0,s)
  |p,x::l,s=>if (sto (p:Nat) (recS x.1.toNat (((imgS s).drop x.1.toNat).take x.2.toNat)) s).1≠0 then sto (p:Nat) (recS x.1.toNat (((imgS s).drop x.1.toNat).take x.2.toNat)) s
    else putF (p+(24+up8 x.2.toNat)) l (sto (p:Nat) (recS x.1.toNat (((imgS s).drop x.1.toNat).take x.2.toNat)) s).2
def lensX (l:List (Int×Int)):List Int:=l.map (·.2)
def writeS (at_ sz:Nat)(l:List (Int×Int))(s:DevS):Int×DevS:=
  if s.off=true then (5,s) else if (wordP (at_:Nat) s).1≠0 then (3,s) else if l.all (mayX (s.ls.length*64) at_ sz)=false then (6,s)
  else if (needS (lensX l)).2≠0∨((sz-64:Nat):Int)<(needS (lensX l)).1 then (111,s) else if l=[] then (0,s)
  else if (putF (at_+64) l s).1≠0 then putF (at_+64) l s
  else if (rangeP ((at_+64:Nat):Int) (needS (lensX l)).1 (putF (at_+64) l s).2).1≠0 then rangeP ((at_+64:Nat):Int) (needS (lensX l)).1 (putF (at_+64) l s).2
  else pubP (at_:Nat) l.length (rangeP ((at_+64:Nat):Int) (needS (lensX l)).1 (putF (at_+64) l s).2).2
def clearS (at_:Nat)(s:DevS):Int×DevS:=if s.off=true then (5,s) else pubP (at_:Nat) 0 s
def readS (n at_ sz:Nat)(room:List Nat)(p:Nat):Option ((Nat×List Nat)×Nat):=
  if room.length<p+24 then none
  else if mayX n at_ sz ((nm ((room.drop p).take 8):Nat),(nm ((room.drop (p+8)).take 8):Nat))=false then none
  else if room.length<p+(24+up8 (nm ((room.drop (p+8)).take 8))) then none
  else if recS (nm ((room.drop p).take 8)) ((room.drop (p+24)).take (nm ((room.drop (p+8)).take 8)))≠(room.drop p).take (24+up8 (nm ((room.drop (p+8)).take 8))) then none
  else some ((nm ((room.drop p).take 8),(room.drop (p+24)).take (nm ((room.drop (p+8)).take 8))),24+up8 (nm ((room.drop (p+8)).take 8)))
def recsF (n at_ sz:Nat)(room:List Nat):Nat->Nat->List (Nat×List Nat)×Int
  |0,_=>([],0)
  |k+1,p=>match readS n at_ sz room p with
    |none=>([],110)
    |some (x,t)=>if (recsF n at_ sz room k (p+t)).2≠0 then ([],110) else (x::(recsF n at_ sz room k (p+t)).1,0)
def roomS (at_ sz:Nat)(s:DevS):List Nat:=((imgS s).drop (at_+64)).take (sz-64)
def recordsS (at_ sz:Nat)(s:DevS):List (Nat×List Nat)×Int:=
  if s.off=true then ([],5) else recsF (s.ls.length*64) at_ sz (roomS at_ sz s) (wordP (at_:Nat) s).1 0
def flL:Nat->Nat->DevS->Int×DevS
  |0,_,s=>(0,s)
  |k+1,q,s=>if (fl1 ((q*64:Nat):Int) s).1≠0 then fl1 ((q*64:Nat):Int) s else flL k (q+1) (fl1 ((q*64:Nat):Int) s).2
def flushX (p m:Nat)(s:DevS):Int×DevS:=flL ((p+m-1)/64-p/64+1) (p/64) s
def backS (x:Nat×List Nat)(s:DevS):Int×DevS:=if (sto (x.1:Nat) x.2 s).1≠0 then sto (x.1:Nat) x.2 s else flushX x.1 x.2.length (sto (x.1:Nat) x.2 s).2
def backF:List (Nat×List Nat)->DevS->Int×DevS
  |[],s=>(0,s)
  |x::l,s=>if (backS x s).1≠0 then backS x s else backF l (backS x s).2
def rollS (at_ sz:Nat)(s:DevS):(Int×Int)×DevS:=
  if (recordsS at_ sz s).2≠0∨(recordsS at_ sz s).1=[] then ((0,(recordsS at_ sz s).2),s)
  else if (backF (recordsS at_ sz s).1.reverse s).1≠0 then ((0,(backF (recordsS at_ sz s).1.reverse s).1),(backF (recordsS at_ sz s).1.reverse s).2)
  else if (fe (backF (recordsS at_ sz s).1.reverse s).2).1≠0 then ((0,(fe (backF (recordsS at_ sz s).1.reverse s).2).1),(fe (backF (recordsS at_ sz s).1.reverse s).2).2)
  else if (pubP (at_:Nat) 0 (fe (backF (recordsS at_ sz s).1.reverse s).2).2).1≠0 then ((0,(pubP (at_:Nat) 0 (fe (backF (recordsS at_ sz s).1.reverse s).2).2).1),(pubP (at_:Nat) 0 (fe (backF (recordsS at_ sz s).1.reverse s).2).2).2)
  else (((recordsS at_ sz s).1.length,0),(pubP (at_:Nat) 0 (fe (backF (recordsS at_ sz s).1.reverse s).2).2).2)
theorem hbqz {p:Prop}(h:p:=by (repeat (first|assumption|with_reducible exact has_here|with_reducible exact has_pt|apply has_left))):p:=h
theorem haqz {p:Prop}(h:p:=by repeat (first|assumption|apply has_left)):p:=h
def lcs11 (d at_ sz:Nat):List Value:=[pz d,vn at_,vn sz]
def xcs (x:Int×Int):List Value:=[.int .i64 x.1,.int .i64 x.2]
structure XW (x:Int×Int):Prop where
  a: -9223372036854775808<=x.1/\ x.1<=9223372036854775807
  l: -9223372036854775808<=x.2/\ x.2<=9223372036854775807
def rndS (n:Nat):Int×Int:=if 9223372036854775807<n+pad8 n then (0,2) else (((up8 n:Nat):Int),0)
theorem wr_i64 {x:Int}(h: -9223372036854775808<=x/\ x<=9223372036854775807):IntKind.i64.wrap x=x:=by simp [IntKind.wrap,IntKind.bits,IntKind.signed];omega
theorem needF_cons {n:Nat}{l:List Int}{s:Int}(h:1<=n):needF ((n:Int)::l) s=if (rndS n).2≠0∨9223372036854775807-24-s<(rndS n).1 then (0,2) else needF l (s+24+(rndS n).1):=by
  have e:needF ((n:Int)::l) s=if (n:Int)<1 then (0,2) else if 9223372036854775807<(n:Int)+pad8 (n:Int).toNat then (0,2) else if 9223372036854775807-24-s<(n:Int)+pad8 (n:Int).toNat then (0,2) else needF l (s+24+((n:Int)+pad8 (n:Int).toNat)):=rfl;rw [e,if_neg oqz,Int.toNat_natCast]
  unfold rndS up8
  by_cases h1:9223372036854775807<n+pad8 n
  . rw [if_pos oqz,if_pos h1,if_pos (.inl (by decide))]
  rw [if_neg oqz,if_neg h1]
  by_cases h2:9223372036854775807-24-s<((n+pad8 n:Nat):Int)
  . rw [if_pos oqz,if_pos (.inr h2)]
  rw [if_neg oqz,if_neg (by simp only [ne_eq,not_true,false_or];exact h2)]
  congr 1
theorem needF_drop {xs:List Int}{i:Nat}(h:i<xs.length)(s:Int):needF (xs.drop i) s=needF (xs[i]::xs.drop (i+1)) s:=by rw [List.drop_eq_getElem_cons h]
theorem needF_bad {n:Int}{l:List Int}{s:Int}(h:n<1):needF (n::l) s=(0,2):=by
  show (if n<1 then _ else _)=_
  rw [if_pos h]
theorem Sum_2 {A:SP}{a a2:Option Addr}{m m2 c c2 b:Nat}{xs ys:List Nat}{E:TypeId}(h1:Rs A a (bys xs))(e1:xs.length=m)(hb:∀x∈xs,x<256)(hl:m<=1099511627776)(k1:Rs A a2 (bys ys))(k2:ys.length=m2)(kb:∀x∈ys,x<256)(kl:m2<=1099511627776):
    Fn Tryz.prog 211 #[.slice (some ⟨b,0,none⟩) 2 2] (A*pt b (cl [.slice a m c,.slice a2 m2 c2] E)) (λ r B=>r= .int .u32 ((crc 0 (xs++ys):Nat):Int)/\ A*pt b (cl [.slice a m c,.slice a2 m2 c2] E)=B):=by
  subst e1 k2;refine fn_rs (xs:=[.slice a xs.length c,.slice a2 ys.length c2]) rs_pt0 λ hr=> ?_
  refine fn_rs h1.left λ h1=> ?_
  refine fn_rs k1.left λ k1=> ?_
  have h:=Sum_c (c:=2) (ls:=[xs,ys]) ⟨_,rfl,hr,λ i hi=>by
    match i,hi with
    |0,_=>exact ⟨a,c,rfl,h1⟩
    |1,_=>exact ⟨a2,c2,rfl,k1⟩⟩ rfl (by intro l hl;simp at hl;rcases hl with rfl|rfl;exact hb;exact kb) (by intro l hm;simp at hm;rcases hm with rfl|rfl;exact hl;exact kl) (by show 2<=_;decide)
  rw [show crcs [xs,ys]=crc 0 (xs++ys) by rw [crc_app];rfl] at h
  exact h
attribute [local irreducible] crk crL crc Sl pt ro Dev imgS recS
theorem Zjw {p r:Prop}(k:r)(h:Kq r->p:=by intro k;refine tlm ?_;refine tv (o_lss rfl rfl) ?_;exact k.o):p:=h ⟨k⟩
theorem Zd6 {p r:Prop}(k:r)(h:Kq r->p:=by intro k;refine tv (o_pick_f rfl wqz) ?_;refine Z3 ?_;exact k.o):p:=h ⟨k⟩
theorem Round8_c {A:SP}{n:Nat}(hn:n<=9223372036854775807:=by omega):
    Fn Tryz.prog 210 #[vn n,.int .i64 8] A (λ r B=>r= .tuple #[.int .i64 (rndS n).1,.int .i64 (rndS n).2]/\ A=B):=by
  refine fn_enterW func210 rfl ntmps210 (by simp) ?_;refine Zc3 ?_;refine Zdq ?_;refine tl_bool (d:=9) rfl dbq (sbq ?_);intro h;refine Zjw ?_;refine Zd6 ?_;intro h;refine Zc6 ?_;refine Z2 ?_;refine tv (o_remN (b:=8) rfl rfl (by decide)) ?_;refine tv (by first|exact o_subI rfl rfl oqz|exact o_sub rfl rfl) ?_;refine tl_env (d:=17) (v:=(vn (8-n%8))) (by show Value.int .i64 ((8:Int)-((n%8:Nat):Int))=_;congr 1;omega) ?_;refine tlm ?_;refine tv (o_remN (b:=8) rfl rfl (by decide)) ?_;refine Zd1 ?_;refine Zdj ?_;refine tl_env (d:=22) (v:=(vn (9223372036854775807-pad8 n))) (by have hp:pad8 n<8:=(by unfold pad8;omega);show Value.int .i64 ((9223372036854775807:Int)-((pad8 n:Nat):Int))=_;congr 1;omega) ?_;refine Ze4 ?_;refine tc_cond rfl (λ h=> ?_) (λ h=> ?_)
  . have hp:pad8 n<8:=(by unfold pad8;omega);have hg:9223372036854775807<n+pad8 n:=(by first|omega|(simp at h;omega));refine Zgs ?_;have e:rndS n=(0,2):=(by unfold rndS;rw [if_pos hg]);rw [e]
    exact ⟨.tuple #[.int .i64 0,.int .i64 2],A,res2 rfl rfl rfl,Dr.sat drqz,rfl,rfl⟩
  have hp:pad8 n<8:=(by unfold pad8;omega);have hg:¬9223372036854775807<n+pad8 n:=(by first|omega|(simp at h;omega));refine Zgr ?_;refine tv adqz ?_;refine tl_env (d:=26) (v:=(vn (up8 n))) (by show Value.int .i64 (IntKind.i64.wrap ((n+pad8 n:Nat):Int))=_;rw [wr_i64 oqz];rfl) ?_;refine Zc4 ?_;have e:rndS n=(((up8 n:Nat):Int),0):=(by unfold rndS;rw [if_neg hg]);rw [e]
  exact ⟨.tuple #[vn (up8 n),.int .i64 0],A,res2 rfl rfl rfl,Dr.sat drqz,rfl,rfl⟩
theorem Zk1 {p r:Prop}(k:r)(h:Kq r->p:=by intro k;refine sr ?_;refine tla ?_;exact k.o):p:=h ⟨k⟩
theorem Zb4 {p r:Prop}(k:r)(h:Kq r->p:=by intro k;refine Zd ?_;refine q_then_r (q_block_r (q_then_r (q_then_r (q_block_r (q_then_r ?_)))));exact k.o):p:=h ⟨k⟩
theorem Zlh {p r:Prop}(k:r)(h:Kq r->p:=by intro k;refine Zk1 ?_;refine Zb4 ?_;exact k.o):p:=h ⟨k⟩
theorem Zdr {p r:Prop}(k:r)(h:Kq r->p:=by intro k;refine tv (o_nei rfl rfl) ?_;refine tlm ?_;exact k.o):p:=h ⟨k⟩
theorem Zc2 {p r:Prop}(k:r)(h:Kq r->p:=by intro k;refine tv (o_gtr rfl rfl) ?_;refine tv (o_pick_f rfl wqz) ?_;exact k.o):p:=h ⟨k⟩
theorem Zgu {p r:Prop}(k:r)(h:Kq r->p:=by intro k;refine tv (o_subI rfl rfl oqz) ?_;refine Zc2 ?_;exact k.o):p:=h ⟨k⟩
theorem Need_c {A:SP}{a:Option Addr}{c m:Nat}{xs:List Int}(hr:Rs A a (ints xs):=by exact rbqz)(hm:xs.length=m:=by first|assumption|rfl)(hx:∀x∈xs,-9223372036854775808<=x/\ x<=9223372036854775807:=by assumption)(hml:m<=4611686018427387904:=by omega):
    Fn Tryz.prog 165 #[.slice a m c] A (λ r B=>r= .tuple #[.int .i64 (needS xs).1,.int .i64 (needS xs).2]/\ A=B):=by
  refine fn_enterW func165 rfl ntmps165 (by simp) ?_;refine sr ?_;refine Z0 ?_;refine Zcl ?_;refine tv (o_len underlying26 rfl) ?_;refine Zid ?_;refine tc_loop (λ kk ρ BB=>∃ (i:Nat) (sm:Int),(i<=m)/\ (needF (xs.drop i) sm=needS xs)/\ (0<=sm/\ sm<=9223372036854775807)/\ kk=m-i/\ ρ 4= .int .i64 sm/\ ρ 11=(vn i)/\ ρ 9= .slice a m c/\ ρ 10=(vn m)/\ BB=A) (m:=m-(0)) ?_ ?_
  . exact ⟨0,0,by omega,rfl,by omega,rfl,rfl,rfl,rfl,rfl,rfl⟩
  intro k ρ B hI;obtain ⟨i,sm,hp0,hp1,hp2,hkk1,hE4,hE11,hE9,hE10,hBA⟩:=hI;obtain rfl:=hBA.symm;refine te 4 hE4 ?_;refine te 11 hE11 ?_;refine te 9 hE9 ?_;refine te 10 hE10 ?_;refine Zei ?_;refine tc_cond rfl (λ h=> ?_) (λ h=> ?_)
  . have hi:i<xs.length:=(by first|omega|(simp at h;omega));obtain ⟨x,hx1⟩:∃x,xs[i]=x:=⟨_,rfl⟩;have hxb:=hx x (hx1▸List.getElem_mem hi);have hnd:=needF_drop hi sm;rw [hx1] at hnd
    obtain ⟨hsm0,hsm1⟩:=hp2;refine Zg5 ?_;refine tv (o_ixP1 underlying26 sz3 rfl rfl oqz (nn_rs hr (by rw [ints_length];omega))) ?_;refine tv (o_ldP p3 rfl hr (ints_at hi)) ?_;refine tl_env (d:=14) (v:= .int .i64 x) (by show Value.int .i64 xs[i]=_;rw [hx1]) ?_;refine Zd1 ?_;refine Zn ?_;refine tc_cond rfl (λ h=> ?_) (λ h=> ?_)
    . have g16:(x<1):=(by first|exact of_decide_eq_true h|(have h2:=h;simp at h2;omega)|simpa using h);refine Zlh ?_;have e:needS xs=(0,2):=(by rw [←hp1,hnd];first|exact needF_bad g16|rw [needF_cons hq1,if_pos hng]);rw [e]
      exact ⟨.tuple #[.int .i64 0,.int .i64 2],A,res2 rfl rfl rfl,Dr.sat drqz,rfl,rfl⟩
    have g16:¬(x<1):=(by first|exact of_decide_eq_false h|(have h2:=h;simp at h2;omega)|simpa using h);refine Zc6 ?_;obtain ⟨q,rfl⟩:=Int.eq_ofNat_of_zero_le (show 0<=x by omega);have hq1:1<=q:=(by omega);have hqr:(rndS q).1<=9223372036854775807/\ 0<=(rndS q).1:=(by unfold rndS up8;split<;>simp<;>omega);refine tl_c rfl (o_call bd210 rfl (Round8_c (n:=q))) ?_;refine Zdz ?_;refine Zbx ?_;refine Zdr ?_;refine tl_bool (d:=24) rfl (λ h=> ?_) (λ h=> ?_)
    . have hng:(rndS q).2≠0∨9223372036854775807-24-sm<(rndS q).1:= .inl (by first|exact of_decide_eq_true h|(simp at h;omega));refine Z8 ?_;refine Zfw ?_;refine Zlh ?_;have e:needS xs=(0,2):=(by rw [←hp1,hnd];first|exact needF_bad g16|rw [needF_cons hq1,if_pos hng]);rw [e]
      exact ⟨.tuple #[.int .i64 0,.int .i64 2],A,res2 rfl rfl rfl,Dr.sat drqz,rfl,rfl⟩
    have h24:(rndS q).2=0:=(by first|(have h9:=of_decide_eq_false h;omega)|(simp at h;omega));refine Z2 ?_;refine Zgu ?_;refine nq ?_;refine tc_cond rfl (λ h=> ?_) (λ h=> ?_)
    . have hng:(rndS q).2≠0∨9223372036854775807-24-sm<(rndS q).1:=(by first|assumption|exact .inr (by first|omega|(simp at h;omega)));refine Zlh ?_;have e:needS xs=(0,2):=(by rw [←hp1,hnd];first|exact needF_bad g16|rw [needF_cons hq1,if_pos hng]);rw [e]
      exact ⟨.tuple #[.int .i64 0,.int .i64 2],A,res2 rfl rfl rfl,Dr.sat drqz,rfl,rfl⟩
    have hn9:¬9223372036854775807-24-sm<(rndS q).1:=(by first|omega|(simp at h;omega));have hng:¬((rndS q).2≠0∨9223372036854775807-24-sm<(rndS q).1):=(by omega);refine Zc6 ?_;refine tv adqz ?_;refine Za ?_;refine Zfn ?_;refine tv adqz ?_;refine Zlf ?_;exact ⟨_,by omega,i+1,_,by omega,by rw [←hp1,hnd,needF_cons hq1,if_neg hng],by omega,rfl,rfl,rfl,rfl,rfl,rfl⟩
  obtain rfl:i=m:=by first|omega|(simp at h;omega)
  refine Zkg ?_;have e:needS xs=(sm,0):=(by rw [←hp1,List.drop_eq_nil_of_le oqz];rfl);rw [e]
  exact ⟨.tuple #[.int .i64 sm,.int .i64 0],A,res2 rfl rfl rfl,Dr.sat drqz,rfl,rfl⟩
theorem Zfg {p r:Prop}(k:r)(h:Kq r->p:=by intro k;refine tv (o_fieldAddr (o:=0) underlying99 rfl rfl sz47 rfl) ?_;refine tv (o_load p47 rfl haqz rfl) ?_;exact k.o):p:=h ⟨k⟩
theorem Zbs {p r:Prop}(k:r)(h:Kq r->p:=by intro k;refine tv (o_fieldAddr (o:=1) underlying162 rfl rfl sz3 rfl) ?_;refine tv (by first|exact o_load p3 rfl hsqz rfl|exact o_loadC p3 rfl (by assumption)) ?_;exact k.o):p:=h ⟨k⟩
theorem Zg7 {p r:Prop}(k:r)(h:Kq r->p:=by intro k;refine Ze3 ?_;refine Z7 ?_;exact k.o):p:=h ⟨k⟩
theorem Zcx {p r:Prop}(k:r)(h:Kq r->p:=by intro k;refine tv (o_pick_t rfl wqz) ?_;refine tl_nil ?_;exact k.o):p:=h ⟨k⟩
theorem Zbb {p r:Prop}(k:r)(h:Kq r->p:=by intro k;refine tv (o_fieldAddr (o:=0) underlying162 rfl rfl sz3 rfl) ?_;refine tv (by first|exact o_load p3 rfl hsqz rfl|exact o_loadC p3 rfl (by assumption)) ?_;exact k.o):p:=h ⟨k⟩
theorem Zir {p r:Prop}(k:r)(h:Kq r->p:=by intro k;refine tv (o_gtr rfl rfl) ?_;refine Z1 ?_;exact k.o):p:=h ⟨k⟩
theorem Zbo {p r:Prop}(k:r)(h:Kq r->p:=by intro k;refine ql_v rfl (o_fieldAddr (o:=0) underlying162 rfl rfl sz3 rfl) ?_;refine ql_v rfl (by first|exact o_load p3 rfl hsqz rfl|exact o_loadC p3 rfl (by assumption)) ?_;exact k.o):p:=h ⟨k⟩
theorem Zde {p r:Prop}(k:r)(h:Kq r->p:=by intro k;refine ql_v rfl (o_fieldAddr (o:=1) underlying162 rfl rfl sz3 rfl) ?_;refine ql_v rfl (by first|exact o_load p3 rfl hsqz rfl|exact o_loadC p3 rfl (by assumption)) ?_;exact k.o):p:=h ⟨k⟩
theorem Zbk {p r:Prop}(k:r)(h:Kq r->p:=by intro k;refine ql_v rfl (o_move wqz) ?_;refine ql_v rfl (o_nilCheck rfl) ?_;exact k.o):p:=h ⟨k⟩
theorem Zev {p r:Prop}(k:r)(h:Kq r->p:=by intro k;refine ql_v rfl (o_fieldAddr (o:=1) underlying99 rfl rfl sz3 rfl) ?_;refine ql_v rfl (o_load p3 rfl haqz rfl) ?_;exact k.o):p:=h ⟨k⟩
theorem Zv {p r:Prop}(k:r)(h:Kq r->p:=by intro k;refine ql_skip rfl ?_;refine ql_skip rfl ?_;exact k.o):p:=h ⟨k⟩
theorem Zeb {p r:Prop}(k:r)(h:Kq r->p:=by intro k;refine Zv ?_;refine Zv ?_;exact k.o):p:=h ⟨k⟩
theorem Zie {p r:Prop}(k:r)(h:Kq r->p:=by intro k;refine Zeb ?_;refine Zeb ?_;exact k.o):p:=h ⟨k⟩
theorem Zf5 {p r:Prop}(k:r)(h:Kq r->p:=by intro k;refine ql_v rfl (o_assign wqz) ?_;refine Zec ?_;exact k.o):p:=h ⟨k⟩
theorem may11_c {A R:SP}{C:SP->SP}{d:Nat}{s:DevS}(hc:Ct A (Dev d s) R C:=by exact cbqz){bl at_ sz:Nat}(hl:Has A bl (cl (lcs11 d at_ sz) 99):=by exact hbqz){x:Int×Int}(hx:XW x:=by assumption)(hlw:LogW (s.ls.length*64) at_ sz:=by assumption):
    Fn Tryz.prog 164 #[pz bl,.agg (xcs x).toArray] A (λ r B=>r= .bool (mayX (s.ls.length*64) at_ sz x)/\ A=B):=by
  refine fn_enterW func164 rfl ntmps164 (by simp) ?_;refine tc_have (λ _ _ h=>ct_wf2 hc h) λ hw=> ?_
  have htop:=hw.top;have hpos:=hw.pos;obtain ⟨rfl,hC⟩:=hc;obtain ⟨⟨hx1,hx2⟩,⟨hx3,hx4⟩⟩:=hx;obtain ⟨w1,w2,w3,w4,w5⟩:=hlw;refine Zeu ?_;rintro _ _ ⟨b3,rfl,rfl⟩;refine Za ?_;refine Zs ?_;refine Zfg ?_;refine tl_c rfl (o_call bd104 rfl (Size_c (s:=s))) ?_;refine Z4 ?_;refine Zdw ?_;refine tc_cut (λ ρ BB=>∃ (bb:Bool),(bb=decide (¬(1<=x.2/\ 64<=x.1/\ x.1<=(s.ls.length:Int)*64/\ x.2<=(s.ls.length:Int)*64-x.1)))/\ ρ 33= .bool bb/\ ρ 0=(pz bl)/\ ρ 3=(pz b3)/\ BB=R*Dev d s*pt b3 (cl (xcs x) 162)) ?_ ?_
  . skip
    refine tc_reg ?_;refine Zbs ?_;refine Zdq ?_;refine tl_bool (d:=14) rfl (λ h=> ?_) (λ h=> ?_)
    . have g14:(x.2<1):=(by first|exact of_decide_eq_true h|(have h2:=h;simp at h2;omega)|simpa using h);refine Zg7 ?_;refine Z8 ?_;refine Z7 ?_;refine Zdl ?_;refine tk ?_;refine Zcx ?_;exact ⟨_,by first|exact (decide_eq_true oqz).symm|exact (decide_eq_false oqz).symm|(rw [decide_eq_decide];omega),rfl,rfl,rfl,rfl⟩
    have g14:¬(x.2<1):=(by first|exact of_decide_eq_false h|(have h2:=h;simp at h2;omega)|simpa using h);refine Zbb ?_;refine tv (o_lss rfl rfl) ?_;refine Z1 ?_;refine tl_bool (d:=19) rfl (λ h=> ?_) (λ h=> ?_)
    . have g19:(x.2<1∨x.1<64):=(by first|exact of_decide_eq_true h|(have h2:=h;simp at h2;omega)|simpa using h);refine Z8 ?_;refine Z7 ?_;refine Zdl ?_;refine tk ?_;refine Zcx ?_;exact ⟨_,by first|exact (decide_eq_true oqz).symm|exact (decide_eq_false oqz).symm|(rw [decide_eq_decide];omega),rfl,rfl,rfl,rfl⟩
    have g19:¬(x.2<1∨x.1<64):=(by first|exact of_decide_eq_false h|(have h2:=h;simp at h2;omega)|simpa using h);refine Zbb ?_;refine tlm ?_;refine Zir ?_;refine tl_bool (d:=25) rfl (λ h=> ?_) (λ h=> ?_)
    . have g25:(x.2<1∨x.1<64∨(s.ls.length:Int)*64<x.1):=(by first|exact of_decide_eq_true h|(have h2:=h;simp at h2;omega)|simpa using h);refine Zdl ?_;refine tk ?_;refine Zcx ?_;exact ⟨_,by first|exact (decide_eq_true oqz).symm|exact (decide_eq_false oqz).symm|(rw [decide_eq_decide];omega),rfl,rfl,rfl,rfl⟩
    have g25:¬(x.2<1∨x.1<64∨(s.ls.length:Int)*64<x.1):=(by first|exact of_decide_eq_false h|(have h2:=h;simp at h2;omega)|simpa using h);refine Zbs ?_;refine tlm ?_;refine Zbb ?_;refine Zgu ?_;refine tl_nil ?_;exact ⟨_,by first|exact (decide_eq_true oqz).symm|exact (decide_eq_false oqz).symm|(rw [decide_eq_decide];omega),rfl,rfl,rfl,rfl⟩
  intro ρ B hI;obtain ⟨bb,hbb0,hE33,hE0,hE3,rfl⟩:=hI;refine q_then_n ?_;refine te 33 hE33 ?_;refine te 0 hE0 ?_;refine te 3 hE3 ?_;refine tc_cond rfl (λ h=> ?_) (λ h=> ?_)
  . have hf:=of_decide_eq_true (show decide (¬(1<=x.2/\ 64<=x.1/\ x.1<=(s.ls.length:Int)*64/\ x.2<=(s.ls.length:Int)*64-x.1))=true by rw [←hbb0];exact h);refine Zb6 ?_;have e:mayX (s.ls.length*64) at_ sz x=false:=decide_eq_false oqz;rw [e]
    exact ⟨.bool false,_,res1 rfl rfl,Dr.sat drqz,rfl,rfl⟩
  have hf:(1<=x.2/\ 64<=x.1/\ x.1<=(s.ls.length:Int)*64/\ x.2<=(s.ls.length:Int)*64-x.1):=(by have h9:=of_decide_eq_false (show decide (¬(1<=x.2/\ 64<=x.1/\ x.1<=(s.ls.length:Int)*64/\ x.2<=(s.ls.length:Int)*64-x.1))=false by rw [←hbb0];exact h);omega);refine Zc ?_;refine Zfr ?_;refine Zbo ?_;refine Zde ?_;refine ql_v rfl (o_addI rfl rfl oqz) ?_;refine Zbk ?_;refine Zev ?_;refine ql_v rfl (o_leq rfl rfl) ?_;refine ql_v rfl (o_move wqz) ?_;refine ql_bool (d:=44) rfl (λ h=> ?_) (λ h=> ?_)
  . have g44:(x.1+x.2<=at_):=(by first|exact of_decide_eq_true h|(have h2:=h;simp at h2;omega)|simpa using h);refine Zie ?_;refine Zeb ?_;refine ql_v rfl (o_pick_t rfl wqz) ?_;refine Zf5 ?_;refine tc_ret ?_;have e:∀b,b=decide (x.1+x.2<=at_∨((at_+sz:Nat):Int)<=x.1)->mayX (s.ls.length*64) at_ sz x=b:=λ b hb=>by rw [hb];unfold mayX;rw [decide_eq_decide];omega
    exact ⟨.bool (mayX (s.ls.length*64) at_ sz x),_,res1 rfl (congrArg Value.bool (e _ (by first|exact (decide_eq_true oqz).symm|exact (decide_eq_false oqz).symm|(rw [decide_eq_decide];omega)))).symm,Dr.sat drqz,rfl,rfl⟩
  have g44:¬(x.1+x.2<=at_):=(by first|exact of_decide_eq_false h|(have h2:=h;simp at h2;omega)|simpa using h);refine Zbo ?_;refine Zbk ?_;refine Zev ?_;refine Zbk ?_;refine ql_v rfl (o_fieldAddr (o:=2) underlying99 rfl rfl sz3 rfl) ?_;refine ql_v rfl (o_load p3 rfl haqz rfl) ?_;refine ql_v rfl (o_addI rfl rfl oqz) ?_;refine ql_v rfl (o_geq rfl rfl) ?_;refine ql_v rfl (o_pick_f rfl wqz) ?_;refine Zf5 ?_;refine tc_ret ?_;have e:∀b,b=decide (x.1+x.2<=at_∨((at_+sz:Nat):Int)<=x.1)->mayX (s.ls.length*64) at_ sz x=b:=λ b hb=>by rw [hb];unfold mayX;rw [decide_eq_decide];omega
  exact ⟨.bool (mayX (s.ls.length*64) at_ sz x),_,res1 rfl (congrArg Value.bool (e _ (by first|exact (decide_eq_true oqz).symm|exact (decide_eq_false oqz).symm|(rw [decide_eq_decide];omega)))).symm,Dr.sat drqz,rfl,rfl⟩
theorem Zjg {p r:Prop}(k:r)(h:Kq r->p:=by intro k;refine Zbz ?_;refine tv (by first|exact o_conv64 underlying3 underlying174 rfl|exact o_conv underlying3 underlying174 rfl) ?_;exact k.o):p:=h ⟨k⟩
theorem Zjh {p r:Prop}(k:r)(h:Kq r->p:=by intro k;refine Zbp ?_;refine tv (by first|exact o_conv64 underlying3 underlying174 rfl|exact o_conv underlying3 underlying174 rfl) ?_;exact k.o):p:=h ⟨k⟩
theorem record_c {A:SP}{a:Option Addr}{c m p:Nat}{xs:List Nat}(hr:Rs A a (bys xs):=by exact rbqz)(hm:xs.length=m:=by first|assumption|rfl)(hb:∀x∈xs,x<256:=by assumption)(hp:p<9223372036854775808:=by omega)(hml:m<=1099511627776:=by omega):
    Fn Tryz.prog 166 #[vn p,.slice a m c] A (λ r B=>∃a2 c2,r= .slice a2 (24+up8 m) c2/\ 24+up8 m<=c2/\ B=A*Sl 1 (.slice a2 (24+up8 m) c2) (24+up8 m) (bys (recS p xs))):=by
  refine fn_enterW func166 rfl ntmps166 (by simp) ?_;obtain ⟨Z,hZ⟩:∃Z,crc 0 (recH p m++xs)=Z:=⟨_,rfl⟩;have hZb:∀x∈recH p m++xs,x<256:=λ x hx=>by rcases List.mem_append.1 hx with h1|h1;exact recH_b _ _ x h1;exact hb x h1
  have hZl:Z<4294967296:=hZ▸crc_lt (by decide) hZb
  obtain ⟨Y,hY⟩:∃Y,recH p m++le 8 Z++xs=Y:=⟨_,rfl⟩;have hYl:Y.length=24+m:=(by rw [←hY,List.length_append,List.length_append,recH_len,le_length,hm]);have hYr:recS p xs=Y++List.replicate (pad8 m) 0:=(by rw [←hY,←hZ,←hm];exact recS_eq _ _);refine Zjg ?_;refine tl_env (d:=7) (v:= .int .u64 ((p:Nat):Int)) (congrArg (λ z:Nat=>Value.int .u64 (z:Int)) (Nat.mod_eq_of_lt oqz)) ?_;refine tl_c rfl (o_call bd169 rfl (Put64_c (xs:=[]) (v:=p))) ?_;rintro _ _ ⟨a8,c8,rfl,hc8,rfl⟩;refine Zjh ?_;refine tl_env (d:=11) (v:= .int .u64 ((m:Nat):Int)) (congrArg (λ z:Nat=>Value.int .u64 (z:Int)) (Nat.mod_eq_of_lt oqz)) ?_;refine tl_c rfl (o_call bd169 rfl (Put64_c (m:=8) (xs:=[]++le 8 p) (v:=m) (hr:=rs_sl) (hm:=by rw [List.nil_append,le_length]))) ?_;rintro _ _ ⟨a12,c12,rfl,hc12,rfl⟩;refine Zep ?_;refine Z2 ?_;refine tl_x rfl (o_buildSliceL (k:=1) (vs:=[.slice a12 (8+8) c12,.slice a m c]) (l:=[.slice a12 (8+8) c12,.slice a m c]) underlying41 sz57 z57 rfl rfl (by decide) (by decide) (by intro v hv;simp at hv;rcases hv with rfl|rfl<;>rfl) rfl) ?_;rintro _ _ ⟨b16,rfl,rfl⟩;refine tl_c rfl (o_call bd211 rfl (Sum_2 (xs:=recH p m) (ys:=xs) rs_sl (recH_len _ _) (recH_b _ _) (by decide) hr.left.left hm hb hml)) ?_;rintro _ _ ⟨rfl,rfl⟩;refine tv (by first|exact o_conv64 underlying32 underlying174 rfl|exact o_conv underlying32 underlying174 rfl) ?_;refine tl_env (d:=18) (v:= .int .u64 ((crc 0 (recH p m++xs):Nat):Int)) (congrArg (λ z:Nat=>Value.int .u64 (z:Int)) (Nat.mod_eq_of_lt oqz)) ?_;refine tl_c rfl (o_call bd169 rfl (Put64_c)) ?_;rintro _ _ ⟨a19,c19,rfl,hc19,rfl⟩;refine Zjb ?_;refine tl_x rfl (o_apR underlying57 underlying57 sz5 by5 z5 rfl (by decide) (by decide) rfl rfl ctqz sq2z sq1z (by first|exact bys_all _|exact ints_all _|exact wds_all _|exact bos_all _|rfl) sq1z (by first|exact bys_sn _ _|exact ints_sn _ _|exact wds_sn _ _|exact bos_sn _ _|exact (bys_append _ _).symm|rfl)) ?_;rintro _ _ ⟨a22,c22,rfl,hc22,rfl⟩;refine Za ?_;refine Zp ?_;refine tc_pre (A':=A*Sl 1 (.slice a22 (24+m+0) c22) (24+m+0) (bys (Y++List.replicate 0 0))) (λ g w h=>by have h2:=Dr.sat (A':=A*Sl 1 (.slice a22 (8+8+8+m) c22) (8+8+8+m) (bys ([]++le 8 p++le 8 m++le 8 (crc 0 (recH p m++xs)))++bys xs)) drqz g w h;rw [hZ,←bys_append,show []++le 8 p++le 8 m++le 8 Z++xs=Y from hY] at h2;rw [show 24+m+0=8+8+8+m by omega,List.replicate_zero,List.append_nil];exact h2) ?_;refine tc_loop (λ kk ρ BB=>∃ (i:Nat) (a5:Option Addr) (c5:Nat),(i<=pad8 m)/\ (24+m+i<=c5)/\ kk=pad8 m-i/\ ρ 5= .slice a5 (24+m+i) c5/\ Dr BB (A*Sl 1 (.slice a5 (24+m+i) c5) (24+m+i) (bys (Y++List.replicate i 0)))) (m:=pad8 m-(0)) ?_ ?_
  . exact ⟨0,a22,c22,by omega,by omega,rfl,by rw [show 24+m+0=8+8+8+m by omega];rfl,drqz⟩
  intro k ρ B hI;obtain ⟨i,a5,c5,hp0,hp1,hkk1,hE5,hBA⟩:=hI;refine tc_pre hBA.sat ?_;clear hBA;refine te 5 hE5 ?_;refine Ze ?_;refine tv (o_len underlying57 rfl) ?_;refine tv (o_remN (b:=8) rfl rfl (by decide)) ?_;refine tl_env (d:=25) (v:= .int .i64 (((24+m+i)%8:Nat):Int)) (by first|rfl|(show Value.int .i64 _=_;congr 1;omega)) ?_;refine Zl ?_;refine tc_cond rfl (λ h=> ?_) (λ h=> ?_)
  . have hi:i<pad8 m:=(by have h9:(24+m+i)%8≠0:=(by first|omega|(simp at h;omega));unfold pad8 at*;omega);have hi8:i<8:=(by have:pad8 m<8:=(by unfold pad8;omega);omega);refine Zi4 ?_;refine Zm ?_;refine tl_x rfl (o_buildSliceL (k:=1) (vs:=bys [0]) (l:=bys [0]) underlying57 sz5 z5 rfl rfl (by decide) (by decide) (by intro v hv;simp only [bys,b8,List.map_cons,List.map_nil,List.mem_cons,List.not_mem_nil,or_false] at hv;rcases hv with rfl;rfl) rfl) ?_;rintro _ _ ⟨b28,rfl,rfl⟩;refine tl_x rfl (o_apB underlying57 underlying57 sz5 by5 z5 rfl (by decide) (by decide) rfl rfl rfl ctqz rfl rfl oqz (show _=bys (Y++List.replicate i 0++[0]) by rw [←bys_append])) ?_;rintro _ _ ⟨a29,c29,rfl,hc29,rfl⟩;refine Zdp ?_;exact ⟨_,by omega,i+1,a29,c29,by omega,by omega,rfl,rfl,by rw [List.replicate_succ',←List.append_assoc];repeat (first|with_reducible exact dr_refl|apply dr_keep|apply dr_drop)⟩
  obtain rfl:i=pad8 m:=by have h9:(24+m+i)%8=0:=(by first|omega|(simp at h;omega));unfold pad8 at*;omega
  refine Zio ?_;rw [hYr,show 24+up8 m=24+m+pad8 m by unfold up8;omega]
  exact ⟨_,_,res1 rfl rfl,λ _ _ h=>h,a5,c5,rfl,hp1,rfl⟩
end Go.Vl

namespace Go.Vl
open Go Go.Proofs Go.Proofs.Tryz
structure RL where
  v:Value
  rows:List (Value×List Nat)
  mark:Int
def RL.l (x:RL):LineS:=⟨x.rows.map Prod.snd,x.mark⟩
def rcl (x:RL):List Value:=[x.v,.int .i64 x.mark]
theorem rcl_len (l:List RL):∀a∈l,(rcl a).length=2:=λ _ _=>rfl
def rowR (p:Value×List Nat):SP:=SlR 1 p.1 64 (bys (lb p.2))
def rlR (x:RL):SP:=Sl 1 x.v x.rows.length (x.rows.map Prod.fst)*Bs rowR x.rows
def rdcs (lv:Value)(s:DevS)(av:Value):List Value:=[vn (s.ls.length*64),lv,.int .i64 s.ops,av,.int .i64 s.cnt,.bool s.off]
def RDevC (r:Nat)(lv:Value)(rls:List RL)(av:Value)(kvs:List Value)(s:DevS):SP:=
  pt r (cl (rdcs lv s av) 195)*Sl 2 lv s.ls.length (rls.flatMap rcl)*Bs rlR rls*ArmsR av kvs s.arms
def RDev (r:Nat)(s:DevS):SP:=λ h=>WfD s/\∃lv rls av kvs,rls.map RL.l=s.ls/\ kvs.length=s.arms.length/\ RDevC r lv rls av kvs s h
theorem rdev_iff {r:Nat}{s:DevS}{R:SP}{g:Gh}{w:World}:sat g w (R*RDev r s)↔WfD s/\∃lv rls av kvs,rls.map RL.l=s.ls/\ kvs.length=s.arms.length/\ sat g w (R*RDevC r lv rls av kvs s):=by
  constructor
  . intro hs;obtain ⟨_,⟨x,y,hd,rfl,ha,hw,lv,rls,av,kvs,h1,h2,h3⟩,hx⟩:=hs.hp;exact ⟨hw,lv,rls,av,kvs,h1,h2,hs.os,hs.tape,hs.out,_,⟨x,y,hd,rfl,ha,h3⟩,hx⟩
  rintro ⟨hw,lv,rls,av,kvs,h1,h2,hs⟩;exact hs.mono λ h ⟨x,y,hd,e,ha,hb⟩=>⟨x,y,hd,e,ha,hw,lv,rls,av,kvs,h1,h2,hb⟩
section
variable {P:Program} {n:Nat} {Q:Post} {ρ:Env} {r:Nat} {s:DevS} {R:SP}
theorem tc_rdev {c:Code}(h:WfD s->∀lv rls av kvs,rls.map RL.l=s.ls->kvs.length=s.arms.length->TC P n c Q ρ (R*RDevC r lv rls av kvs s)):TC P n c Q ρ (R*RDev r s):=λ g a w ha hs=>by
  obtain ⟨hw,lv,rls,av,kvs,h1,h2,hs'⟩:=rdev_iff.1 hs;exact h hw lv rls av kvs h1 h2 g a w ha hs'
end
theorem rdev_back {r:Nat}{s:DevS}{R:SP}{lv av:Value}{rls:List RL}{kvs:List Value}(hw:WfD s)(h1:rls.map RL.l=s.ls)(h2:kvs.length=s.arms.length):∀g w,sat g w (R*RDevC r lv rls av kvs s)->sat g w (R*RDev r s):=
  λ g w hs=>rdev_iff.2 ⟨hw,lv,rls,av,kvs,h1,h2,hs⟩
section
variable {r:Nat} {s:DevS} {R F:SP} {lv av:Value} {rls:List RL} {kvs:List Value}
theorem rdevC_r:Has (F*RDevC r lv rls av kvs s) r (cl (rdcs lv s av) 195):=by
  rw [show F*RDevC r lv rls av kvs s=F*Sl 2 lv s.ls.length (rls.flatMap rcl)*Bs rlR rls*ArmsR av kvs s.arms*pt r (cl (rdcs lv s av) 195) by unfold RDevC;ac_rfl]
  exact has_here
theorem rdevC_upd (o c:Int)(f:Bool):Upd (F*RDevC r lv rls av kvs s) r (cl (rdcs lv s av) 195) (cl (rdcs lv { s with ops:=o,cnt:=c,off:=f } av) 195) (F*RDevC r lv rls av kvs { s with ops:=o,cnt:=c,off:=f }):=by
  have e:∀t:DevS,F*RDevC r lv rls av kvs t=F*Sl 2 lv t.ls.length (rls.flatMap rcl)*Bs rlR rls*ArmsR av kvs t.arms*pt r (cl (rdcs lv t av) 195):=λ t=>by unfold RDevC;ac_rfl
  rw [e,e];exact upd_here
structure RdevR (A:SP) (r:Nat) (lv:Value) (rls:List RL) (av:Value) (s:DevS):Prop where
  wf:WfD s
  len:rls.length=s.ls.length
  at_:∀i (h:i<rls.length) (h':i<s.ls.length),rls[i].l=s.ls[i]
  d:Rs A (some ⟨r,0,none⟩) (rdcs lv s av)
  lv:∃b o c,lv= .slice (some ⟨b,o,none⟩) s.ls.length c/\ s.ls.length<=c/\ Rs A (some ⟨b,o,none⟩) (rls.flatMap rcl)
  all:∀i (h:i<rls.length),∃b o c,rls[i].v= .slice (some ⟨b,o,none⟩) rls[i].rows.length c/\ rls[i].rows.length<=c/\ Rs A (some ⟨b,o,none⟩) (rls[i].rows.map Prod.fst)
  row:∀i (h:i<rls.length) j (h':j<rls[i].rows.length),∃b o c,rls[i].rows[j].1= .slice (some ⟨b,o,none⟩) 64 c/\ 64<=c/\ Rs A (some ⟨b,o,none⟩) (bys (lb rls[i].rows[j].2))
theorem rs_in {A X R:SP}{a:Option Addr}{xs:List Value}(e:A=R*X)(h:Rs (R*X) a xs):Rs A a xs:=e▸h
theorem lb_len {s:List Nat}(h:s.length=8):(lb s).length=64:=by rw [lb_length,h]
theorem rdevR_of (hw:WfD s)(h1:rls.map RL.l=s.ls){g:Gh}{w:World}(hs:sat g w (F*RDevC r lv rls av kvs s)):RdevR (F*RDevC r lv rls av kvs s) r lv rls av s:=by
  have hlen:rls.length=s.ls.length:=(by rw [←h1,List.length_map])
  have hat:∀i (h:i<rls.length) (h':i<s.ls.length),rls[i].l=s.ls[i]:=λ i h h'=>by
    have:(rls.map RL.l)[i]? =some rls[i].l:=(by simp [h]);rw [h1,List.getElem?_eq_getElem h'] at this
    exact (Option.some.inj this).symm
  have hrne:∀i (h:i<rls.length),0<rls[i].rows.length:=λ i h=>by
    have hl:=hw.line _ (List.getElem_mem (show i<s.ls.length by omega));rw [←hat i h oqz] at hl
    have:=List.length_pos_iff.2 hl.ne
    simpa [RL.l] using this
  refine ⟨hw,hlen,hat, ?_, ?_, ?_, ?_⟩
  . refine rs_in (R:=F*Sl 2 lv s.ls.length (rls.flatMap rcl)*Bs rlR rls*ArmsR av kvs s.arms) (X:=pt r (cl (rdcs lv s av) 195)) (by unfold RDevC;ac_rfl) rs_pt0
  . have e:F*RDevC r lv rls av kvs s=F*pt r (cl (rdcs lv s av) 195)*Bs rlR rls*ArmsR av kvs s.arms*Sl 2 lv s.ls.length (rls.flatMap rcl):=(by unfold RDevC;ac_rfl);have hpos:=hw.pos;obtain ⟨a,c,e1,e2,e3,e4⟩:=sl_have' e hs;obtain ⟨b,o,rfl,hc⟩:=e4.some (by rw [e3];omega);exact ⟨b,o,c,e1,e2,rs_rd (rd_cells hc)⟩
  . intro i h;obtain ⟨R,hR,_⟩:=bs_get (f:=rlR) h;have e:F*RDevC r lv rls av kvs s=F*pt r (cl (rdcs lv s av) 195)*Sl 2 lv s.ls.length (rls.flatMap rcl)*R*Bs rowR rls[i].rows*ArmsR av kvs s.arms*Sl 1 rls[i].v rls[i].rows.length (rls[i].rows.map Prod.fst):=(by unfold RDevC;rw [hR];unfold rlR;ac_rfl);have hpos:=hrne i h;obtain ⟨a,c,e1,e2,e3,e4⟩:=sl_have' e hs;obtain ⟨b,o,rfl,hc⟩:=e4.some (by rw [e3];omega);exact ⟨b,o,c,e1,e2,rs_rd (rd_cells hc)⟩
  intro i h j h';obtain ⟨R,hR,_⟩:=bs_get (f:=rlR) h;obtain ⟨R',hR',_⟩:=bs_get (f:=rowR) h'
  have e:F*RDevC r lv rls av kvs s=F*pt r (cl (rdcs lv s av) 195)*Sl 2 lv s.ls.length (rls.flatMap rcl)*R*Sl 1 rls[i].v rls[i].rows.length (rls[i].rows.map Prod.fst)*R'*ArmsR av kvs s.arms*SlR 1 rls[i].rows[j].1 64 (bys (lb rls[i].rows[j].2)):=by
    unfold RDevC;rw [hR];unfold rlR;rw [hR'];unfold rowR;ac_rfl
  obtain ⟨a,c,e1,e2,e3,e4⟩:=slR_have e hs;obtain ⟨b,o,rfl,hc⟩:=e4.some (by rw [e3];omega);exact ⟨b,o,c,e1,e2,rs_rd (rd_cells hc)⟩
theorem RdevR.left {A X:SP}(h:RdevR A r lv rls av s):RdevR (A*X) r lv rls av s:=
  ⟨h.wf,h.len,h.at_,h.d.left,let ⟨b,o,c,e1,e2,e3⟩:=h.lv;⟨b,o,c,e1,e2,e3.left⟩,λ i hi=>let ⟨b,o,c,e1,e2,e3⟩:=h.all i hi;⟨b,o,c,e1,e2,e3.left⟩,
    λ i hi j hj=>let ⟨b,o,c,e1,e2,e3⟩:=h.row i hi j hj;⟨b,o,c,e1,e2,e3.left⟩⟩
theorem RdevR.rows {A:SP}(h:RdevR A r lv rls av s){i:Nat}(hi:i<rls.length)(hi':i<s.ls.length):rls[i].rows.length=s.ls[i].st.length:=by
  rw [←h.at_ i hi hi'];simp [RL.l]
theorem RdevR.snd {A:SP}(h:RdevR A r lv rls av s){i j:Nat}(hi:i<rls.length)(hi':i<s.ls.length)(hj:j<rls[i].rows.length):rls[i].rows[j].2=s.ls[i].st[j]'(by rw [←h.rows hi hi'];exact hj):=by
  have:=h.at_ i hi hi';have e:s.ls[i].st=rls[i].rows.map Prod.snd:=(by rw [←this];rfl)
  simp only [e,List.getElem_map]
theorem RdevR.mark {A:SP}(h:RdevR A r lv rls av s){i:Nat}(hi:i<rls.length)(hi':i<s.ls.length):rls[i].mark=s.ls[i].mark:=by rw [←h.at_ i hi hi'];rfl
theorem RdevR.lvR {A:SP}{b o n c:Nat}(h:RdevR A r (.slice (some ⟨b,o,none⟩) n c) rls av s):Rs A (some ⟨b,o,none⟩) (rls.flatMap rcl):=by
  obtain ⟨b',o',c',e,_,h1⟩:=h.lv
  simp only [Value.slice.injEq,Option.some.injEq,Addr.mk.injEq] at e
  obtain ⟨⟨rfl,rfl,_⟩,_,_⟩:=e;exact h1
theorem rdevC_focus {i n:Nat}(hi:i<rls.length)(hn:s.ls.length=n):∃R,(∀F,F*RDevC r lv rls av kvs s=F*R*pt r (cl (rdcs lv s av) 195)*Bs rowR rls[i].rows*Sl 1 rls[i].v rls[i].rows.length (rls[i].rows.map Prod.fst)*Sl 2 lv n (rls.flatMap rcl))∧
    ∀F x (t:DevS),t.ls.length=n->t.arms=s.arms->t.ops=s.ops->t.cnt=s.cnt->t.off=s.off->F*R*pt r (cl (rdcs lv s av) 195)*Bs rowR x.rows*Sl 1 x.v x.rows.length (x.rows.map Prod.fst)*Sl 2 lv n ((rls.set i x).flatMap rcl)=F*RDevC r lv (rls.set i x) av kvs t:=by
  subst hn;obtain ⟨R,hR,hS⟩:=bs_get (f:=rlR) hi;refine ⟨R*ArmsR av kvs s.arms,λ F=> ?_,λ F x t ht ha h1 h2 h3=> ?_⟩
  . unfold RDevC;rw [hR];unfold rlR;ac_rfl
  have e:rdcs lv s av=rdcs lv t av:=(by unfold rdcs;rw [ht,h1,h2,h3])
  unfold RDevC;rw [hS,ha,ht,e];unfold rlR;ac_rfl
theorem rdev_line1 {X S2:SP}{rows:List (Value×List Nat)}{k b:Nat}{v:Value}{xs:List Value}{n:Nat}{E:TypeId}(hk:k<rows.length){g:Gh}{w:World}(h:sat g w (X*Bs rowR rows*Sl 1 v n xs*S2*pt b (cl [rows[k].1] E))):
    sat g w (X*Bs rowR [rows[k]]*Sl 1 (.slice (some ⟨b,0,none⟩) 1 1) 1 [rows[k].1]*S2):=by
  obtain ⟨R',hR',_⟩:=bs_get (f:=rowR) hk;have h1:sat g w (X*S2*rowR rows[k]*pt b (cl [rows[k].1] E)*(R'*Sl 1 v n xs)):=h.perm (by rw [hR'];ac_rfl);exact (sl_new (k:=1) (n:=1) (cap:=1) (xs:=[rows[k].1]) h1.left (by decide) (Nat.le_refl _) rfl).perm (by rw [bs_cons,bs_nil,emp_star];ac_rfl)
theorem rdevC_arms {g:Gh}{w:World}(hs:sat g w (F*RDevC r lv rls av kvs s)):
    ∃a cap,av= .slice a s.arms.length cap/\ s.arms.length<=cap/\ (acs kvs s.arms).length=s.arms.length*2/\ Rd (F*RDevC r lv rls av kvs s) a (acs kvs s.arms):=
  sl_have' (R:=F*KeepsR kvs s.arms*Bs rlR rls*Sl 2 lv s.ls.length (rls.flatMap rcl)*pt r (cl (rdcs lv s av) 195)) (by unfold RDevC ArmsR;ac_rfl) hs
theorem rdevC_arms' {n c:Nat}{a:Option Addr}{g:Gh}{w:World}(hs:sat g w (F*RDevC r lv rls (.slice a n c) kvs s)):Rd (F*RDevC r lv rls (.slice a n c) kvs s) a (acs kvs s.arms):=by
  obtain ⟨a',cap,e,_,_,h⟩:=rdevC_arms hs
  simp only [Value.slice.injEq] at e
  rw [←e.1] at h;exact h
theorem rdevC_eq:F*RDevC r lv rls av kvs s=F*ArmsR av kvs s.arms*Bs rlR rls*Sl 2 lv s.ls.length (rls.flatMap rcl)*pt r (cl (rdcs lv s av) 195):=by unfold RDevC;ac_rfl
theorem rdevC_cut {b o n c:Nat}{kv:Value}{s':DevS}{arm:Int×List Int}{ar:List (Int×List Int)}(hn:n=s.arms.length)(ha:s.arms=arm::ar)(hls:s'.ls=s.ls)(har:s'.arms=ar){g:Gh}{w:World}
    (hs:sat g w (F*ArmsR (.slice (some ⟨b,o,none⟩) n c) (kv::kvs) s.arms*Bs rlR rls*Sl 2 lv s.ls.length (rls.flatMap rcl)*pt r (cl (rdcs lv s' (.slice (cutAddr (some ⟨b,o,none⟩) c 1 2) (n-1) (c-1))) 195))):
    sat g w (F*SlR 1 kv arm.2.length (ints arm.2)*RDevC r lv rls (.slice (cutAddr (some ⟨b,o,none⟩) c 1 2) (n-1) (c-1)) kvs s'):=by
  unfold ArmsR at hs
  rw [ha] at hs
  have h1:=sl_cut (l:=1) (hs.perm (B:=F*(KeepsR kvs ar*SlR 1 kv arm.2.length (ints arm.2))*Bs rlR rls*Sl 2 lv s.ls.length (rls.flatMap rcl)*pt r (cl (rdcs lv s' (.slice (cutAddr (some ⟨b,o,none⟩) c 1 2) (n-1) (c-1))) 195)*Sl 2 (.slice (some ⟨b,o,none⟩) n c) n (acs (kv::kvs) (arm::ar)))
    (by rw [hn,ha];simp only [KeepsR];ac_rfl)) (by rw [hn,ha];simp)
  refine h1.perm ?_
  unfold RDevC ArmsR
  rw [hls,har]
  have:n-1=ar.length:=(by rw [hn,ha];simp);rw [this]
  simp only [acs,Nat.one_mul,List.drop_succ_cons,List.drop_zero]
  ac_rfl
end
theorem goP_wf {keep:List Int}{i:Nat}{s:DevS}(h:WfD s):WfD { s with ls:=goPart keep i s.ls }:=⟨by simp only [goPart_length];exact h.pos,by simp only [goPart_length];exact h.top,goPart_wf h.line,h.arms,h.after,h.keeps⟩
theorem fn_rdevR0 {P:Program}{f:FuncId}{args:Array Value}{F:SP}{r:Nat}{s:DevS}{q:Value->Prop}
    (h:∀A lv rls av,RdevR A r lv rls av s->Fn P f args A λ v B=>q v/\ A=B):
    Fn P f args (F*RDev r s) λ v B=>q v/\ F*RDev r s=B:=λ g w hs=>by
  obtain ⟨hw,lv,rls,av,kvs,h1,h2,hs'⟩:=rdev_iff.1 hs;refine (h _ lv rls av (rdevR_of hw h1 hs') g w hs').mono ?_;rintro e w' ⟨v,B,e1,⟨hq,rfl⟩,hB⟩;exact ⟨v,F*RDev r s,e1,⟨hq,rfl⟩,rdev_back hw h1 h2 _ _ hB⟩
theorem fn_rdevR {P:Program}{f:FuncId}{args:Array Value}{F:SP}{r:Nat}{s:DevS}{q:Value->SP->Prop}
    (h:∀A lv rls av,RdevR A r lv rls av s->Fn P f args A λ v B=>∃X,B=A*X/\ q v X):
    Fn P f args (F*RDev r s) λ v B=>∃X,B=F*RDev r s*X/\ q v X:=λ g w hs=>by
  obtain ⟨hw,lv,rls,av,kvs,h1,h2,hs'⟩:=rdev_iff.1 hs;refine (h _ lv rls av (rdevR_of hw h1 hs') g w hs').mono ?_;rintro e w' ⟨v,B,e1,⟨X,rfl,hq⟩,hB⟩;refine ⟨v,_,e1,⟨X,rfl,hq⟩, ?_⟩;have h3:=rdev_back (R:=F*X) hw h1 h2 _ _ (hB.perm (star_swap _ _ _));exact h3.perm (star_swap _ _ _)
theorem rcl_at0 {l:List RL}{i:Nat}(h:i<l.length):(l.flatMap rcl)[i*2+0]? =some l[i].v:=by rw [fm_atj (rcl_len l) h (by decide) rfl];rfl
theorem rcl_at1 {l:List RL}{i:Nat}(h:i<l.length):(l.flatMap rcl)[i*2+1]? =some (.int .i64 l[i].mark):=by rw [fm_atj (rcl_len l) h (by decide) rfl];rfl
section
variable {A:SP} {r:Nat} {lv av:Value} {rls:List RL} {s:DevS}
theorem RdevR.pos (h:RdevR A r lv rls av s){i:Nat}(hi:i<rls.length):0<rls[i].rows.length:=by
  have h':i<s.ls.length:=(by rw [←h.len];exact hi);rw [h.rows hi h']
  exact List.length_pos_iff.2 (h.wf.line _ (List.getElem_mem h')).ne
theorem RdevR.small (h:RdevR A r lv rls av s){i:Nat}(hi:i<rls.length):rls[i].rows.length<=2199023255552:=by
  have h':i<s.ls.length:=(by rw [←h.len];exact hi);rw [h.rows hi h']
  exact (h.wf.line _ (List.getElem_mem h')).small
theorem RdevR.top (h:RdevR A r lv rls av s){i:Nat}(hi:i<rls.length)(hi':i<s.ls.length):∃b o c,(rls[i].rows.map Prod.fst)[rls[i].rows.length-1]? =some (.slice (some ⟨b,o,none⟩) 64 c)/\ 64<=c/\ Rs A (some ⟨b,o,none⟩) (bys (lb (seenL s.ls[i]))):=by
  have hp:=h.pos hi;obtain ⟨b,o,c,e1,e2,e3⟩:=h.row i hi (rls[i].rows.length-1) oqz;refine ⟨b,o,c, ?_,e2, ?_⟩
  . rw [List.getElem?_map,List.getElem?_eq_getElem oqz];simp [e1]
  rw [h.snd hi hi' oqz] at e3
  have e:seenL s.ls[i]=s.ls[i].st[rls[i].rows.length-1]'(by rw [←h.rows hi hi'];omega):=by
    unfold seenL;simp only [←h.rows hi hi']
    simp [List.getD,show rls[i].rows.length-1<s.ls[i].st.length by rw [←h.rows hi hi'];omega]
  rw [e];exact e3
theorem RdevR.allC (h:RdevR A r lv rls av s){i:Nat}(hi:i<rls.length):∃b o c,(rls.flatMap rcl)[i*2+0]? =some (.slice (some ⟨b,o,none⟩) rls[i].rows.length c)/\ rls[i].rows.length<=c/\ Rs A (some ⟨b,o,none⟩) (rls[i].rows.map Prod.fst):=by
  obtain ⟨b,o,c,e1,e2,e3⟩:=h.all i hi;exact ⟨b,o,c,by rw [rcl_at0 hi,e1],e2,e3⟩
end
attribute [local irreducible] Sl pt ro imgS
theorem Zee {p r:Prop}(k:r)(h:Kq r->p:=by intro k;refine tlm ?_;refine tv (by first|exact o_remI rfl rfl oqz|exact o_rem rfl rfl oqz) ?_;exact k.o):p:=h ⟨k⟩
theorem rfits_c {A:SP}{p:Int}:
    Fn Tryz.prog 115 #[.int .i64 p] A (λ r B=>r= .bool (fitsB p)/\ A=B):=by
  refine fn_enterW func115 rfl ntmps115 (by simp) ?_;refine Zjv ?_;refine tlm ?_;refine tl_bool (d:=5) rfl (sbq ?_) (sbq ?_)
  . intro h;refine tlm ?_;refine tv (o_leq rfl rfl) ?_;refine Z7 ?_;refine tl_bool (d:=9) rfl (sbq ?_) (sbq ?_)
    . intro h;refine Zee ?_;refine tv (o_eqi rfl rfl) ?_;refine Ze6 ?_;refine ⟨.bool (decide (p%64=0)),_,res1 rfl rfl, ?_,by unfold fitsB;congr 1;rw [decide_eq_decide];omega,rfl⟩;exact Dr.sat drqz
    intro h;refine Ze3 ?_;refine Zd5 ?_;refine ⟨.bool false,_,res1 rfl rfl, ?_,by unfold fitsB;rw [decide_eq_false oqz],rfl⟩;exact Dr.sat drqz
  intro h;refine Zh ?_;refine Z1 ?_;refine Ze3 ?_;refine Zd5 ?_;refine ⟨.bool false,_,res1 rfl rfl, ?_,by unfold fitsB;rw [decide_eq_false oqz],rfl⟩;exact Dr.sat drqz
theorem Zlc {p r:Prop}(k:r)(h:Kq r->p:=by intro k;refine Zj ?_;refine Zs ?_;exact k.o):p:=h ⟨k⟩
theorem rOps_f (A:SP){r:Nat}{lv av:Value}{rls:List RL}{s:DevS}(hR:RdevR A r lv rls av s):
    Fn Tryz.prog 57 #[pz r] A (λ v B=>v= .int .i64 s.ops/\ A=B):=by
  refine fn_enterW func57 rfl ntmps57 (by simp) ?_;refine Zlc ?_;refine tv (o_fieldAddr (o:=2) underlying195 rfl rfl sz3 rfl) ?_;refine tv (o_ldP (a:=some ⟨r,0,none⟩) (i:=2) p3 rfl (by repeat (first|exact hR.d|apply Rs.left)) rfl) ?_;refine Zd ?_;refine ⟨_,_,res1 rfl rfl, ?_,rfl,rfl⟩;exact Dr.sat drqz
theorem rOff_f (A:SP){r:Nat}{lv av:Value}{rls:List RL}{s:DevS}(hR:RdevR A r lv rls av s):
    Fn Tryz.prog 59 #[pz r] A (λ v B=>v= .bool s.off/\ A=B):=by
  refine fn_enterW func59 rfl ntmps59 (by simp) ?_;refine Zlc ?_;refine tv (o_fieldAddr (o:=5) underlying195 rfl rfl sz4 rfl) ?_;refine tv (o_ldP (a:=some ⟨r,0,none⟩) (i:=5) p4 rfl (by repeat (first|exact hR.d|apply Rs.left)) rfl) ?_;refine Zd ?_;refine ⟨_,_,res1 rfl rfl, ?_,rfl,rfl⟩;exact Dr.sat drqz
theorem Zfj {p r:Prop}(k:r)(h:Kq r->p:=by intro k;refine Zw ?_;refine tv (o_fieldAddr (o:=0) underlying195 rfl rfl sz3 rfl) ?_;exact k.o):p:=h ⟨k⟩
theorem Zhj {p r:Prop}(k:r)(h:Kq r->p:=by intro k;refine Z8 ?_;refine Z8 ?_;exact k.o):p:=h ⟨k⟩
theorem rinside_f (A:SP){r:Nat}{lv av:Value}{rls:List RL}{s:DevS}(hR:RdevR A r lv rls av s){p m:Int}(hp: -9223372036854775808<=p/\ p<=9223372036854775807)(hm: -9223372036854775808<=m/\ m<=9223372036854775807):
    Fn Tryz.prog 180 #[pz r,.int .i64 p,.int .i64 m] A (λ v B=>v= .bool (decide (rdy s.ls.length false p m=0))/\ A=B):=by
  refine fn_enterW func180 rfl ntmps180 (by simp) ?_;have htop:=hR.wf.top;refine Zjv ?_;refine tlm ?_;refine tl_bool (d:=9) rfl (sbq ?_) (sbq ?_)
  . intro h;refine tlm ?_;refine tv (o_geq rfl rfl) ?_;refine Z7 ?_;refine tl_bool (d:=13) rfl (sbq ?_) (sbq ?_)
    . intro h;refine tlm ?_;refine Zfj ?_;refine tv (o_ldP (a:=some ⟨r,0,none⟩) (i:=0) p3 rfl (by repeat (first|exact hR.d|apply Rs.left)) rfl) ?_;refine tv (o_leq rfl rfl) ?_;refine Z7 ?_;refine tl_bool (d:=21) rfl (sbq ?_) (sbq ?_)
      . intro h;refine tlm ?_;refine Zfj ?_;refine tv (o_ldP (a:=some ⟨r,0,none⟩) (i:=0) p3 rfl (by repeat (first|exact hR.d|apply Rs.left)) rfl) ?_;refine Zdj ?_;refine tv (o_leq rfl rfl) ?_;refine Ze6 ?_;refine ⟨.bool (decide (m<=((s.ls.length*64:Nat):Int)-p)),_,res1 rfl rfl, ?_,(by congr 1;rw [decide_eq_decide];unfold rdy;rw [if_neg (by decide)];split<;>constructor<;>intro _<;>omega),rfl⟩;exact Dr.sat drqz
      intro h;refine Zhj ?_;refine Zd5 ?_;refine ⟨.bool false,_,res1 rfl rfl, ?_,(by rw [decide_eq_false];unfold rdy;rw [if_neg (by decide),if_pos oqz];decide),rfl⟩;exact Dr.sat drqz
    intro h;refine Zdl ?_;refine Z1 ?_;refine Zhj ?_;refine Zd5 ?_;refine ⟨.bool false,_,res1 rfl rfl, ?_,(by rw [decide_eq_false];unfold rdy;rw [if_neg (by decide),if_pos oqz];decide),rfl⟩;exact Dr.sat drqz
  intro h;refine Zh ?_;refine Z1 ?_;refine Zdl ?_;refine Z1 ?_;refine Zhj ?_;refine Zd5 ?_;refine ⟨.bool false,_,res1 rfl rfl, ?_,(by rw [decide_eq_false];unfold rdy;rw [if_neg (by decide),if_pos oqz];decide),rfl⟩;exact Dr.sat drqz
theorem Zfl {p r:Prop}(k:r)(h:Kq r->p:=by intro k;refine Zbd ?_;refine Zbv ?_;exact k.o):p:=h ⟨k⟩
theorem rbelow_c {A:SP}{a:Option Addr}{c m:Nat}{xs:List Int}(hr:Rs A a (ints xs):=by exact rbqz)(hm:xs.length=m:=by first|assumption|rfl)(hml:m<=17592186044416:=by omega):
    Fn Tryz.prog 177 #[.slice a m c] A (λ r B=>r= .bool (lowB xs)/\ A=B):=by
  refine fn_enterW func177 rfl ntmps177 (by simp) ?_;refine Zky ?_;refine tc_loop (λ kk ρ BB=>∃ (i:Nat),(i<=m)/\ (∀k (h:k<xs.length),k<i->0<=xs[k])/\ kk=m-i/\ ρ 3=(vn i)/\ ρ 0= .slice a m c/\ BB=A) (m:=m-(0)) ?_ ?_
  . exact ⟨0,by omega,λ k h h0=>by omega,rfl,rfl,rfl,rfl⟩
  intro k ρ B hI;obtain ⟨i,hp0,hp1,hkk1,hE3,hE0,hBA⟩:=hI;obtain rfl:=hBA.symm;refine te 3 hE3 ?_;refine te 0 hE0 ?_;refine Zed ?_;refine Ze2 ?_;refine tc_cond rfl (λ h=> ?_) (sbq ?_)
  . have hi:i<xs.length:=(by simp at h;omega);refine Zlg ?_;refine tv (o_ixP1 underlying26 sz3 rfl rfl sq1z sq0z) ?_;refine tv (o_ldP p3 rfl sq2z (by first|assumption|exact bys_at oqz|exact ints_at oqz|exact wds_at oqz|exact bos_at oqz|rfl)) ?_;refine Zn ?_;refine tc_cond rfl (sbq ?_) (sbq ?_)
    . intro h;refine Zjt ?_;refine ⟨.bool true,_,res1 rfl rfl, ?_,(by rw [show lowB xs=true from List.any_eq_true.2 ⟨_,List.getElem_mem hi,decide_eq_true h⟩]),rfl⟩;exact Dr.sat drqz
    intro h;refine Zfl ?_;exact ⟨_,by omega,i+1,by omega,λ k hk h0=>by rcases Nat.lt_succ_iff_lt_or_eq.1 h0 with h1|rfl;exact hp1 k hk h1;(simp at h;omega),rfl,rfl,rfl,rfl⟩
  intro h;refine Zgf ?_;obtain rfl:i=xs.length:=by omega
  have e:lowB xs=false:=(by rw [lowB,List.any_eq_false];intro x hx;obtain ⟨k,hk,rfl⟩:=List.mem_iff_getElem.1 hx;have:=hp1 k hk hk;simp;omega);exact ⟨.bool false,A,res1 rfl rfl,Dr.sat drqz,by rw [e],rfl⟩
theorem Zfy {p r:Prop}(k:r)(h:Kq r->p:=by intro k;refine tlm ?_;refine tv (o_ixP underlying193 sz197 rfl rfl sq1z sq0z) ?_;exact k.o):p:=h ⟨k⟩
theorem Zg3 {p r:Prop}(k:r)(h:Kq r->p:=by intro k;refine tv (o_faP (m:=0) (o:=0) underlying197 rfl rfl sz41 rfl sq0z) ?_;refine tv (o_ldP p41 rfl sq2z (by first|assumption|exact bys_at oqz|exact ints_at oqz|exact wds_at oqz|exact bos_at oqz|rfl)) ?_;exact k.o):p:=h ⟨k⟩
theorem rseen_f (A:SP){r:Nat}{lv av:Value}{rls:List RL}{s:DevS}(hR:RdevR A r lv rls av s){i b o c:Nat}(hi:i<rls.length)(ht:(rls[i].rows.map Prod.fst)[rls[i].rows.length-1]? =some (.slice (some ⟨b,o,none⟩) 64 c)):
    Fn Tryz.prog 126 #[pz r,vn i] A (λ v B=>v= .slice (some ⟨b,o,none⟩) 64 c/\ A=B):=by
  refine fn_enterW func126 rfl ntmps126 (by simp) ?_;obtain ⟨bl,ol,cl_,rfl,hlc,hlr⟩:=hR.lv;obtain ⟨ba,oa,ca,g1,hca,har⟩:=hR.allC hi;have hlen:=hR.len;have hpos:=hR.pos hi;have hsm:=hR.small hi;refine Zlc ?_;refine tv (o_fieldAddr (o:=1) underlying195 rfl rfl sz193 rfl) ?_;refine tv (o_ldP (a:=some ⟨r,0,none⟩) (i:=1) p193 rfl (by repeat (first|exact hR.d|apply Rs.left)) rfl) ?_;refine Zfy ?_;refine Zg3 ?_;refine tl_env (d:=13) (v:= .slice (some ⟨ba,oa,none⟩) rls[i].rows.length ca) (rfl) ?_;refine Zjb ?_;refine tv (o_len underlying41 rfl) ?_;refine tv (by first|exact o_subI rfl rfl oqz|exact o_sub rfl rfl) ?_;refine tl_env (d:=17) (v:=(vn (rls[i].rows.length-1))) (by show Value.int .i64 _=_;congr 1;omega) ?_;refine tv (o_ixP1 underlying41 sz57 rfl rfl oqz nn_some) ?_;refine tv (o_ldP p57 rfl har ht) ?_;refine Zd ?_;refine ⟨_,_,res1 rfl rfl, ?_,rfl,rfl⟩;exact Dr.sat drqz
theorem Zfb {p r:Prop}(k:r)(h:Kq r->p:=by intro k;refine Zw ?_;refine tv (o_fieldAddr (o:=1) underlying195 rfl rfl sz193 rfl) ?_;exact k.o):p:=h ⟨k⟩
theorem Zbt {p r:Prop}(k:r)(h:Kq r->p:=by intro k;refine ql_v rfl (o_move wqz) ?_;refine ql_v rfl (o_move wqz) ?_;exact k.o):p:=h ⟨k⟩
theorem Zq {p r:Prop}(k:r)(h:Kq r->p:=by intro k;refine tm 0 rfl kqz rfl (o_move wqz) ?_;refine tm 1 rfl kqz rfl (o_nilCheck rfl) ?_;exact k.o):p:=h ⟨k⟩
theorem Zcy {p r:Prop}(k:r)(h:Kq r->p:=by intro k;refine tm 2 rfl kqz rfl (o_fieldAddr (o:=1) underlying195 rfl rfl sz193 rfl) ?_;refine tm 3 rfl kqz rfl (by first|exact o_load p193 rfl hsqz rfl|exact o_loadC p193 rfl (by assumption)) ?_;exact k.o):p:=h ⟨k⟩
theorem Zc1 {p r:Prop}(k:r)(h:Kq r->p:=by intro k;refine tm 4 rfl kqz rfl (o_move wqz) ?_;refine tm 5 rfl kqz rfl (o_move wqz) ?_;exact k.o):p:=h ⟨k⟩
theorem Zej {p r:Prop}(k:r)(h:Kq r->p:=by intro k;refine tm 7 rfl kqz rfl (o_fieldAddr (o:=1) underlying195 rfl rfl sz193 rfl) ?_;refine tm 8 rfl kqz rfl (by first|exact o_load p193 rfl hsqz rfl|exact o_loadC p193 rfl (by assumption)) ?_;exact k.o):p:=h ⟨k⟩
theorem Zew {p r:Prop}(k:r)(h:Kq r->p:=by intro k;refine tm 10 rfl kqz rfl (o_ixP underlying193 sz197 rfl rfl sq1z sq0z) ?_;refine tm 11 rfl kqz rfl (o_faP (m:=0) (o:=0) underlying197 rfl rfl sz41 rfl sq0z) ?_;exact k.o):p:=h ⟨k⟩
theorem Zz {p r:Prop}(k:r)(h:Kq r->p:=by intro k;refine tv (o_nilCheck rfl) ?_;refine tv (o_fieldAddr (o:=5) underlying195 rfl rfl sz4 rfl) ?_;exact k.o):p:=h ⟨k⟩
theorem rgoes_f (F:SP){r c:Nat}{s:DevS}{a:Option Addr}{keep:List Int}(hr:Rs F a (ints keep))(hk:∀k∈keep,0<=k/\ k<=9223372036854775807)(hkl:keep.length<=17592186044416):
    Fn Tryz.prog 178 #[pz r,.slice a keep.length c] (F*RDev r s) (λ v B=>v= .tuple #[]/\ B=F*RDev r (goesS keep s)):=by
  refine fn_enterW func178 rfl ntmps178 (by simp) ?_;refine tc_rdev λ hw lv rls av kvs hmap hkv=> ?_
  have hpos:=hw.pos;have htop:=hw.top;refine tc_have (λ _ _ h=>rdevR_of hw hmap h) λ hR0=> ?_
  obtain ⟨bl,ol,cl_,rfl,hlc,_⟩:=hR0.lv;refine Zce ?_;refine tc_loop (λ kk ρ BB=>∃ (i:Nat) (rls1:List RL),(i<=s.ls.length)/\ (rls1.map RL.l=goPart keep i s.ls)/\ kk=s.ls.length-i/\ ρ 4=(vn i)/\ ρ 0=(pz r)/\ ρ 1= .slice a keep.length c/\ BB=F*RDevC r (.slice (some ⟨bl,ol,none⟩) s.ls.length cl_) rls1 av kvs { s with ls:=goPart keep i s.ls }) (m:=s.ls.length-(0)) ?_ ?_
  . exact ⟨0,rls,by omega,by rw [goPart_zero];exact hmap,rfl,rfl,rfl,rfl,by rw [goPart_zero]⟩
  intro k ρ B hI;obtain ⟨i,rls1,hp0,hp1,hkk1,hE4,hE0,hE1,rfl⟩:=hI;refine te 4 hE4 ?_;refine te 0 hE0 ?_;refine te 1 hE1 ?_;refine Ze ?_;refine Zfb ?_;refine tv (o_load p193 rfl rdevC_r rfl) ?_;refine tv (o_len underlying193 rfl) ?_;refine Zn ?_;refine tc_cond rfl (λ h=> ?_) (λ h=> ?_)
  . have hi:i<s.ls.length:=(by simp at h;omega);have hgl:(goPart keep i s.ls).length=s.ls.length:=goPart_length _ _ _;refine tc_have (λ _ _ h=>rdevR_of (goP_wf hw) hp1 h) λ hR=> ?_
    have hir:i<rls1.length:=(by rw [hR.len,hgl];exact hi);obtain ⟨ba,oa,ca,g1,hca,har⟩:=hR.allC hir;have hll:=hR.lvR;have hsm:=hR.small hir;have hps:=hR.pos hir;have hkl2:=kOf_lt (keep:=keep) (i:=i) hps;obtain ⟨br,orr,cr,hrow,hcr,hrr⟩:=hR.row i hir _ hkl2;refine Zbe ?_;refine Zcl ?_;refine tlm ?_;refine Ze2 ?_;refine tc_cut (λ ρ BB=>ρ 5=(vn (kOf keep i rls1[i].rows.length))/\ ρ 0=(pz r)/\ ρ 1= .slice a keep.length c/\ ρ 4=(vn i)/\ BB=F*RDevC r (.slice (some ⟨bl,ol,none⟩) s.ls.length cl_) rls1 av kvs { s with ls:=goPart keep i s.ls }) ?_ ?_
    . skip
      refine tc_cond rfl (sbq ?_) (sbq ?_)
      . intro h;refine tc_regq mo kqz ?_;refine Zbt ?_;refine ql_v rfl (o_ixP1 underlying26 sz3 rfl rfl sq1z sq0z) ?_;refine ql_v rfl (o_ldP p3 rfl hr.left (ints_at oqz)) ?_;refine Zbk ?_;refine ql_v rfl (o_fieldAddr (o:=1) underlying195 rfl rfl sz193 rfl) ?_;refine ql_v rfl (o_ldP (a:=some ⟨r,0,none⟩) (i:=1) p193 rfl hR.d rfl) ?_;refine ql_v rfl (o_move wqz) ?_;refine ql_v rfl (o_ixP underlying193 sz197 rfl rfl sq1z sq0z) ?_;refine ql_v rfl (o_faP (m:=0) (o:=0) underlying197 rfl rfl sz41 rfl sq0z) ?_;refine ql_v rfl (o_ldP p41 rfl sq2z (by first|assumption|exact bys_at oqz|exact ints_at oqz|exact wds_at oqz|exact bos_at oqz|rfl)) ?_;refine ql_v rfl (o_len underlying41 rfl) ?_;refine ql_v rfl (o_remI rfl rfl (by have:=hk _ (List.getElem_mem (show i<keep.length by omega));omega)) ?_;refine ql_v rfl (o_assign wqz) ?_;refine ql_nil ?_;exact ⟨(by first|(show Value.int .i64 (keep[i]'oqz%_)=_;congr 1;unfold kOf;rw [dif_pos oqz,Int.toNat_of_nonneg (Int.emod_nonneg _ oqz)])|(show Value.int .i64 0=_;congr 1;unfold kOf;rw [dif_neg oqz];rfl)),rfl,rfl,rfl,rfl⟩
      intro h;refine tc_skip ?_;exact ⟨(by first|(show Value.int .i64 (keep[i]'oqz%_)=_;congr 1;unfold kOf;rw [dif_pos oqz,Int.toNat_of_nonneg (Int.emod_nonneg _ oqz)])|(show Value.int .i64 0=_;congr 1;unfold kOf;rw [dif_neg oqz];rfl)),rfl,rfl,rfl,rfl⟩
    intro ρ B hI;obtain ⟨hE5,hE0,hE1,hE4,rfl⟩:=hI;refine q_then_n ?_;refine te 5 hE5 ?_;refine te 0 hE0 ?_;refine te 1 hE1 ?_;refine te 4 hE4 ?_;obtain ⟨R,hf1,hf2⟩:=rdevC_focus (r:=r) (lv:=(.slice (some ⟨bl,ol,none⟩) s.ls.length cl_)) (av:=av) (kvs:=kvs) (s:={ s with ls:=goPart keep i s.ls }) (n:=s.ls.length) hir hgl;refine tc_eq (hf1 F) ?_;have hv0:rls1[i].v= .slice (some ⟨ba,oa,none⟩) rls1[i].rows.length ca:=(by rw [rcl_at0 hir] at g1;exact Option.some.inj g1);have hrow2:(rls1[i].rows.map Prod.fst)[kOf keep i rls1[i].rows.length]? =some rls1[i].rows[kOf keep i rls1[i].rows.length].1:=(by rw [List.getElem?_map,List.getElem?_eq_getElem hkl2];rfl);rw [hv0]
    refine tc_regh (S:=F*R*pt r (cl (rdcs (.slice (some ⟨bl,ol,none⟩) s.ls.length cl_) { s with ls:=goPart keep i s.ls } av) 195)*Bs rowR rls1[i].rows*Sl 1 (.slice (some ⟨ba,oa,none⟩) rls1[i].rows.length ca) rls1[i].rows.length (rls1[i].rows.map Prod.fst)) mo drqz ?_
    show TH _ _ _ _ _ 20 (Array.replicate 20 false) _ _
    refine Zq ?_;refine Zcy ?_;refine Zc1 ?_;refine tm 6 rfl kqz rfl (o_nilCheck rfl) ?_;refine Zej ?_;refine tm 9 rfl kqz rfl (o_move wqz) ?_;refine Zew ?_;refine tm 13 rfl kqz rfl (o_move wqz) ?_;refine th_one (i:=12) kqz ?_;refine oh_v rfl rfl rfl (o_ldP p41 rfl sq2z (by first|assumption|exact bys_at oqz|exact ints_at oqz|exact wds_at oqz|exact bos_at oqz|rfl)) ?_;refine tm 14 rfl kqz rfl (o_ixP1 underlying41 sz57 rfl rfl sq1z sq0z) ?_;refine tm 15 rfl kqz rfl (o_ldP p57 rfl sq2z hrow2) ?_;refine th_one (i:=16) kqz ?_;refine oh_x rfl rfl rfl (o_buildSlice1 underlying41 sz57 z57 rfl (by rw [hrow];rfl)) ?_;rintro _ _ ⟨b49,rfl,rfl⟩;refine ⟨by repeat (first|with_reducible exact dr_refl|apply dr_keep|apply dr_drop), ?_⟩;refine tm 17 rfl kqz rfl (o_bS (l:=[_,_]) (pv_cons wqz (pv_cons wqz pv_nil)) underlying197 z197 (pl197 underlying197) rfl) ?_;refine tm 18 rfl kqz rfl (o_ixP underlying193 sz197 rfl rfl sq1z sq0z) ?_;refine th_one (i:=19) kqz ?_;refine oh_u rfl rfl rfl (o_stPN (vs:=[.slice (some ⟨b49,0,none⟩) 1 1,.int .i64 (-1)]) (ys:=(rls1.set i ⟨.slice (some ⟨b49,0,none⟩) 1 1,[rls1[i].rows[kOf keep i rls1[i].rows.length]],-1⟩).flatMap rcl) sz197 rfl rfl rfl rfl (by decide) ctqz oqz (fm_spl (k:=2) (f:=rcl) (y:=⟨.slice (some ⟨b49,0,none⟩) 1 1,[rls1[i].rows[kOf keep i rls1[i].rows.length]],-1⟩) (rcl_len _) hir rfl)) drqz ?_;refine th_pre (λ _ _ h=>rdev_line1 hkl2 h) ?_
    have hnext:(rls1.set i ⟨.slice (some ⟨b49,0,none⟩) 1 1,[rls1[i].rows[kOf keep i rls1[i].rows.length]],-1⟩).map RL.l=goPart keep (i+1) s.ls:=by
      rw [List.map_set,hp1,←goPart_set keep hi]
      congr 1
      unfold goL RL.l
      have e1:=hR.rows hir (by rw [hgl];exact hi);have e2:=hR.snd hir (by rw [hgl];exact hi) hkl2
      simp only [goPart_at keep hi] at e1 e2
      simp only [e1] at e2
      simp only [List.map_cons,List.map_nil,e1,e2]
      rw [getD_at (by rw [←e1];exact hkl2)]
    refine th_eq (hf2 F ⟨.slice (some ⟨b49,0,none⟩) 1 1,[rls1[i].rows[kOf keep i rls1[i].rows.length]],-1⟩ { s with ls:=goPart keep (i+1) s.ls } (goPart_length _ _ _) rfl rfl rfl rfl) ?_;refine Zcg ?_;refine Zbv ?_;exact ⟨_,by omega,i+1,rls1.set i ⟨.slice (some ⟨b49,0,none⟩) 1 1,[rls1[i].rows[kOf keep i rls1[i].rows.length]],-1⟩,by omega,hnext,rfl,rfl,rfl,rfl,rfl⟩
  obtain rfl:i=s.ls.length:=by simp at h;omega
  refine Zf ?_;refine Zm ?_;refine Zz ?_;refine tl_u rfl (o_store sz4 rfl rfl rfl (by show 5<6;decide) rfl (rdevC_upd s.ops s.cnt true)) ?_;refine tl_nil ?_;exact ⟨_,_,res0 rfl,rdev_back (goesS_wf hw) hp1 hkv,rfl,rfl⟩
theorem Zb2 {p r:Prop}(k:r)(h:Kq r->p:=by intro k;refine Ze ?_;refine tv (o_nilCheck rfl) ?_;exact k.o):p:=h ⟨k⟩
theorem Zhb {p r:Prop}(k:r)(h:Kq r->p:=by intro k;refine tv (o_fieldAddr (o:=3) underlying195 rfl rfl sz95 rfl) ?_;refine tv (o_load p95 rfl rdevC_r rfl) ?_;exact k.o):p:=h ⟨k⟩
theorem Zfx {p r:Prop}(k:r)(h:Kq r->p:=by intro k;refine Zc ?_;refine Zs ?_;exact k.o):p:=h ⟨k⟩
theorem Zld {p r:Prop}(k:r)(h:Kq r->p:=by intro k;refine nq ?_;refine Zs ?_;exact k.o):p:=h ⟨k⟩
theorem rdone_f (F:SP){r:Nat}{s:DevS}:
    Fn Tryz.prog 225 #[pz r] (F*RDev r s) (λ v B=>v= .int .i64 (doneE s)/\ B=F*RDev r (doneS s)):=by
  refine fn_enterW func225 rfl ntmps225 (by simp) ?_;refine tc_rdev λ hw lv rls av kvs hmap hkv=> ?_
  have hpos:=hw.pos;have htop:=hw.top;have har64:=hw.arms;refine tc_have (λ _ _ h=>rdevC_arms h) λ ⟨aa,ca,hav,hca,hal,_⟩=> ?_
  subst hav;refine Zbz ?_;refine Zw ?_;refine tv (o_fieldAddr (o:=2) underlying195 rfl rfl sz3 rfl) ?_;refine tv (o_load p3 rfl rdevC_r rfl) ?_;refine tv (o_add rfl rfl) ?_;refine tv (o_nilCheck rfl) ?_;refine tv (o_fieldAddr (o:=2) underlying195 rfl rfl sz3 rfl) ?_;refine tl_u rfl (o_store sz3 rfl rfl rfl (by show 2<6;decide) rfl (rdevC_upd (wr64 (s.ops+1)) s.cnt s.off)) ?_;refine nq ?_;refine Zb2 ?_;refine Zhb ?_;refine tv (o_len underlying95 rfl) ?_;refine Zca ?_;refine tc_cond rfl (sbq ?_) (λ h=> ?_)
  . intro h;refine Zb6 ?_;have e:s.arms=[]:=List.eq_nil_of_length_eq_zero oqz;have e1:doneS s={ s with ops:=wr64 (s.ops+1) }:=(by unfold doneS;rw [e]);exact ⟨.int .i64 0,_,res1 rfl rfl,rdev_back (s:={ s with ops:=wr64 (s.ops+1) }) (by rw [←e1];exact doneS_wf hw) hmap hkv,by unfold doneE;rw [e],by rw [e1]⟩
  simp only [decide_eq_false_iff_not] at h
  obtain ⟨arm,ar,har⟩:∃arm ar,s.arms=arm::ar:=by
    cases e:s.arms with
    |nil=>rw [e] at h;simp at h
    |cons x y=>exact ⟨x,y,rfl⟩
  obtain ⟨kv,kvs,rfl⟩:∃kv kvs',kvs=kv::kvs':=by
    cases kvs with
    |nil=>rw [har] at hkv;simp at hkv
    |cons x y=>exact ⟨x,y,rfl⟩
  have hacs:acs (kv::kvs) s.arms= .int .i64 arm.1::kv::acs kvs ar:=(by rw [har];rfl);have hkp:=hw.keeps arm (by rw [har];simp);refine Zc6 ?_;refine Zw ?_;refine tv (o_fieldAddr (o:=4) underlying195 rfl rfl sz3 rfl) ?_;refine tv (o_load p3 rfl rdevC_r rfl) ?_;refine tv (o_add rfl rfl) ?_;refine tv (o_nilCheck rfl) ?_;refine tv (o_fieldAddr (o:=4) underlying195 rfl rfl sz3 rfl) ?_;refine tl_u rfl (o_store sz3 rfl rfl rfl (by show 4<6;decide) rfl (rdevC_upd (wr64 (s.ops+1)) (wr64 (s.cnt+1)) s.off)) ?_;refine tl_have (λ _ _ h=>rdevC_arms' h) λ hrd=> ?_
  obtain ⟨b,o,rfl,hcs⟩:=hrd.some (by show 0<(acs _ s.arms).length;rw [hacs];simp);have g0:=hcs 0 (.int .i64 arm.1) (by show (acs _ s.arms)[0]? =_;rw [hacs];rfl);have g1:=hcs 1 kv (by show (acs _ s.arms)[1]? =_;rw [hacs];rfl);have hlen1:1<=s.arms.length:=(by rw [har];simp);refine nq ?_;refine Zdw ?_;refine tc_regq mo kqz ?_;refine Zbk ?_;refine ql_v rfl (o_fieldAddr (o:=4) underlying195 rfl rfl sz3 rfl) ?_;refine ql_v rfl (o_load p3 rfl rdevC_r rfl) ?_;refine Zbk ?_;refine ql_v rfl (o_fieldAddr (o:=3) underlying195 rfl rfl sz95 rfl) ?_;refine ql_v rfl (o_load p95 rfl rdevC_r rfl) ?_;refine Zji ?_;refine ql_v rfl (o_loadC p3 rfl g0) ?_;refine ql_v rfl (o_lss rfl rfl) ?_;refine Zec ?_;refine tc_cond rfl (sbq ?_) (sbq ?_)
  . intro h;refine Zb6 ?_;have e1:doneS s={ s with ops:=wr64 (s.ops+1),cnt:=wr64 (s.cnt+1) }:=(by unfold doneS;rw [har];simp only [];rw [if_pos h]);exact ⟨.int .i64 0,_,res1 rfl rfl,rdev_back (s:={ s with ops:=wr64 (s.ops+1),cnt:=wr64 (s.cnt+1) }) (by rw [←e1];exact doneS_wf hw) hmap hkv,by unfold doneE;rw [har];simp only [];rw [if_pos h],by rw [e1]⟩
  intro h;refine Zfx ?_;refine Zhb ?_;refine Zj6 ?_;refine tv (o_loadC p26 rfl g1) ?_;refine Zep ?_;refine Zw ?_;refine Zhb ?_;refine tv (o_slice (l:=1) (h:=s.arms.length) underlying95 sz82 rfl (bnd_nat (r:=1) rfl) bnd_none oqz oqz) ?_;refine tv (o_nilCheck rfl) ?_;refine tv (o_fieldAddr (o:=3) underlying195 rfl rfl sz95 rfl) ?_;refine tl_eq rdevC_eq ?_;refine tl_u rfl (o_store (l':=rdcs lv { s with ops:=wr64 (s.ops+1),cnt:=wr64 (s.cnt+1),arms:=ar } (.slice (cutAddr (some ⟨b,o,none⟩) ca 1 2) (s.arms.length-1) (ca-1))) sz95 rfl rfl rfl (by show 3<6;decide) rfl upd_here) ?_;refine tl_pre (λ _ _ h=>rdevC_cut (s:={ s with ops:=wr64 (s.ops+1),cnt:=wr64 (s.cnt+1) }) (s':={ s with ops:=wr64 (s.ops+1),cnt:=wr64 (s.cnt+1),arms:=ar }) (arm:=arm) (ar:=ar) rfl har rfl rfl h) ?_;refine Zld ?_;refine tv (o_fieldAddr (o:=4) underlying195 rfl rfl sz3 rfl) ?_;refine tl_u rfl (o_store sz3 rfl rfl rfl (by show 4<6;decide) rfl (rdevC_upd (wr64 (s.ops+1)) 0 s.off)) ?_;refine tl_have (λ _ _ h=>slR_have rfl h.left) λ ⟨ka,kc,hkv2,_,_,hkr⟩=> ?_
  subst hkv2;have hw2:WfD { s with ops:=wr64 (s.ops+1),arms:=ar,cnt:=0 }:=⟨hw.pos,hw.top,hw.line,by have:=hw.arms;rw [har] at this;simp at this ⊢;omega,λ x hx=>hw.after x (by rw [har];simp at hx ⊢;exact .inr hx),λ x hx=>hw.keeps x (by rw [har];simp at hx ⊢;exact .inr hx)⟩;refine tl_pre (rdev_back (s:={ s with ops:=wr64 (s.ops+1),arms:=ar,cnt:=0 }) hw2 hmap (by rw [har] at hkv;simpa using hkv)) ?_;refine nq ?_;refine Zb7 ?_;refine tl_c rfl (o_call bd178 rfl (rgoes_f _ (c:=kc) (rs_rd hkr) hkp.2 hkp.1)) ?_;refine Zet ?_;refine Zd0 ?_;have e1:doneS s=goesS arm.2 { s with ops:=wr64 (s.ops+1),arms:=ar,cnt:=0 }:=(by unfold doneS;rw [har];simp only [];rw [if_neg h]);exact ⟨.int .i64 5,_,res1 rfl rfl,λ _ _ h=>h.drop2,by unfold doneE;rw [har];simp only [];rw [if_neg h],by rw [e1]⟩
end Go.Vl

namespace Go.Vl
open Go Go.Proofs Go.Proofs.Tryz
theorem row_stW {s:DevS}{p:Nat}{xs:List Nat}(hw:WfD s)(hi:p/64<s.ls.length)(hx:xs.length<=8-p%8)(hb:∀x∈xs,x<256):
    spl (lb (seenL s.ls[p/64])) (p%64) xs=lb ((seenL s.ls[p/64]).set (p%64/8) (nm (stW p xs s))):=by
  have hwl:=hw.line _ (List.getElem_mem hi);have h8:=hwl.eight _ (seenL_mem hwl);have hs8:=seen8 hwl;have e8:le 8 (nm (stW p xs s))=stW p xs s:=(by have:=le_nm _ (stW_bytes (p:=p) (s:=s) hb);rw [stW_len] at this;exact this);rw [lb_set oqz,e8]
  unfold stW
  rw [seenL_getD hi,List.take_of_length_le hx]
  have e:(seenL s.ls[p/64]).getD (p%64/8) 0=(seenL s.ls[p/64])[p%64/8]'(by omega):=(by simp [List.getD,show p%64/8<(seenL s.ls[p/64]).length by omega]);have hw2:=lb_word (s:=seenL s.ls[p/64]) (r:=p%64/8) oqz [];rw [List.append_nil] at hw2
  rw [e,←hw2,spl_in oqz oqz]
  congr 1;omega
theorem stW_take {p n:Nat}{b:List Nat}{s:DevS}(h:8-p%8<=n):stW p (b.take n) s=stW p b s:=by
  unfold stW;rw [List.take_take,Nat.min_eq_left h]
theorem stW_take' {p n:Nat}{b:List Nat}{s:DevS}(h:b.length<=n):stW p (b.take n) s=stW p b s:=by rw [List.take_of_length_le h]
theorem lay_map {rls:List RL}{s:DevS}{p v:Nat}{x:RL}(hmap:rls.map RL.l=s.ls)(hi:p/64<s.ls.length)(hx:x.l=layL (p%64/8) v s.ls[p/64]):(rls.set (p/64) x).map RL.l=(layS p v s).ls:=by
  unfold layS;rw [onLine_at hi,List.map_set,hmap,hx]
attribute [local irreducible] Sl pt ro imgS
theorem Zcw {p r:Prop}(k:r)(h:Kq r->p:=by intro k;refine tv (o_ixP1 underlying57 sz5 rfl rfl sq1z sq0z) ?_;refine tv (o_ldP p5 rfl sq2z (by first|assumption|exact bys_at oqz|exact ints_at oqz|exact wds_at oqz|exact bos_at oqz|rfl)) ?_;exact k.o):p:=h ⟨k⟩
theorem Zcq {p r:Prop}(k:r)(h:Kq r->p:=by intro k;refine tv (o_ixP1 underlying57 sz5 rfl rfl sq1z sq0z) ?_;refine tl_u rfl (o_stP sz5 rfl rfl rfl ctqz oqz (by first|exact bys_set _ _ _|exact ints_set _ _ _|exact wds_set' _ _ _|exact bos_set _ _ _|rfl)) ?_;exact k.o):p:=h ⟨k⟩
theorem Zjx {p r:Prop}(k:r)(h:Kq r->p:=by intro k;refine Zu ?_;refine Zbv ?_;exact k.o):p:=h ⟨k⟩
theorem Zkk {p r:Prop}(k:r)(h:Kq r->p:=by intro k;refine ⟨by repeat (first|with_reducible exact dr_refl|apply dr_keep|apply dr_drop), ?_⟩;refine th_one (i:=15) kqz ?_;exact k.o):p:=h ⟨k⟩
theorem Zik {p r:Prop}(k:r)(h:Kq r->p:=by intro k;refine ⟨by repeat (first|with_reducible exact dr_refl|apply dr_keep|apply dr_drop), ?_⟩;refine tm 16 rfl kqz rfl (o_ixP underlying193 sz197 rfl rfl sq1z sq0z) ?_;exact k.o):p:=h ⟨k⟩
theorem Zks {p r:Prop}(k:r)(h:Kq r->p:=by intro k;refine tm 17 rfl kqz rfl (o_faP (m:=0) (o:=0) underlying197 rfl rfl sz41 rfl sq0z) ?_;refine th_one (i:=18) kqz ?_;exact k.o):p:=h ⟨k⟩
theorem Zlu {p r:Prop}(k:r)(h:Kq r->p:=by intro k;refine Zba ?_;refine tc_seq ?_;exact k.o):p:=h ⟨k⟩
theorem rword_f (F:SP){r c m p:Nat}{s:DevS}{a:Option Addr}{xs:List Nat}(hr:Rs F a (bys xs))(hm:xs.length=m)(hx:m<=8-p%8)(hb:∀x∈xs,x<256)(hi:p/64<s.ls.length)(hroom:Room 1 s):
    Fn Tryz.prog 181 #[pz r,vn p,.slice a m c] (F*RDev r s) (λ v B=>v= .int .i64 (doneE (layS (p-p%8) (nm (stW p xs s)) s))/\ B=F*RDev r (doneS (layS (p-p%8) (nm (stW p xs s)) s))):=by
  refine fn_enterW func181 rfl ntmps181 (by simp) ?_;refine tc_rdev λ hw lv rls av kvs hmap hkv=> ?_
  have hpos:=hw.pos;have htop:=hw.top;refine tc_have (λ _ _ h=>rdevR_of hw hmap h) λ hR=> ?_
  obtain ⟨bl,ol,cl_,rfl,hlc,hll⟩:=hR.lv;have hlen:=hR.len;have hir:p/64<rls.length:=(by omega);obtain ⟨ba,oa,ca,g1,hca,har⟩:=hR.allC hir;obtain ⟨br,orr,cr,ht,hcr,hrr⟩:=hR.top hir hi;have hwl:=hw.line _ (List.getElem_mem hi);have hs8:=seen8 hwl;have hsm:=hR.small hir;have hroom1:=hroom _ (List.getElem_mem hi);have hrl:=hR.rows hir hi;have hq1:(p-p%8)/64=p/64:=(by omega);have hq2:(p-p%8)%64/8=p%64/8:=(by omega);refine Zbz ?_;refine tv (o_quoN (b:=64) rfl rfl oqz) ?_;refine Zjb ?_;refine tl_c rfl (o_call bd126 rfl (rseen_f _ hR hir ht)) ?_;rintro _ _ ⟨rfl,rfl⟩;refine tl_c rfl (o_call bd52 rfl (CopyBytes_c (xs:=lb (seenL s.ls[p/64])) (hm:=hs8))) ?_;rintro _ _ ⟨a15,c15,rfl,hc15,rfl⟩;refine Zhk ?_;refine tc_loop (λ kk ρ BB=>∃ (k:Nat),(k<=m)/\ kk=m-k/\ ρ 9=(vn k)/\ ρ 0=(pz r)/\ ρ 1=(vn p)/\ ρ 2= .slice a m c/\ ρ 7=(vn (p/64))/\ ρ 8= .slice a15 64 c15/\ BB=F*RDevC r (.slice (some ⟨bl,ol,none⟩) s.ls.length cl_) rls av kvs s*Sl 1 (.slice a15 64 c15) 64 (bys (spl (lb (seenL s.ls[p/64])) (p%64) (xs.take k)))) (m:=m-(0)) ?_ ?_
  . exact ⟨0,by omega,rfl,rfl,rfl,rfl,rfl,rfl,rfl,by rw [List.take_zero,spl_nil]⟩
  intro k ρ B hI;obtain ⟨k,hp0,hkk1,hE9,hE0,hE1,hE2,hE7,hE8,rfl⟩:=hI;refine te 9 hE9 ?_;refine te 0 hE0 ?_;refine te 1 hE1 ?_;refine te 2 hE2 ?_;refine te 7 hE7 ?_;refine te 8 hE8 ?_;refine Zju ?_;refine tc_cond rfl (λ h=> ?_) (λ h=> ?_)
  . have hk:k<xs.length:=(by simp at h;omega);refine Zbe ?_;refine Zfn ?_;refine tv (o_remN (b:=64) rfl rfl oqz) ?_;refine tlm ?_;refine tv adqz ?_;refine tl_env (d:=26) (v:=(vn (p%64+k))) (rfl) ?_;refine Z2 ?_;refine Zcw ?_;refine Zcq ?_;refine Zjx ?_;exact ⟨_,by omega,k+1,by omega,rfl,rfl,rfl,rfl,rfl,rfl,rfl,by rw [←spl_take (show k<xs.length by omega) oqz]⟩
  have h:¬(k<m):=(by simp at h;omega);refine Zf ?_;refine tc_seq ?_;obtain rfl:k=xs.length:=by omega
  rw [List.take_length,row_stW hw hi oqz hb]
  refine tc_pre (A':=F*rowR (⟨.slice a15 64 c15,(seenL s.ls[p/64]).set (p%64/8) (nm (stW p xs s))⟩:Value×List Nat)*RDevC r (.slice (some ⟨bl,ol,none⟩) s.ls.length cl_) rls av kvs s) (λ _ _ h=>(sl_share h).perm (by unfold rowR;exact star_swap _ _ _)) ?_;obtain ⟨R,hf1,hf2⟩:=rdevC_focus (r:=r) (lv:=(.slice (some ⟨bl,ol,none⟩) s.ls.length cl_)) (av:=av) (kvs:=kvs) (s:=s) (n:=s.ls.length) hir rfl;refine tc_eq (hf1 _) ?_;have hv0:rls[p/64].v= .slice (some ⟨ba,oa,none⟩) rls[p/64].rows.length ca:=(by rw [rcl_at0 hir] at g1;exact Option.some.inj g1);rw [hv0]
  refine tc_regh (S:=F*rowR (⟨.slice a15 64 c15,(seenL s.ls[p/64]).set (p%64/8) (nm (stW p xs s))⟩:Value×List Nat)*R*pt r (cl (rdcs (.slice (some ⟨bl,ol,none⟩) s.ls.length cl_) s av) 195)*Bs rowR rls[p/64].rows) mo drqz ?_
  show TH _ _ _ _ _ 19 (Array.replicate 19 false) _ _
  refine Zq ?_;refine Zcy ?_;refine Zc1 ?_;refine tm 6 rfl kqz rfl (o_nilCheck rfl) ?_;refine Zej ?_;refine tm 9 rfl kqz rfl (o_move wqz) ?_;refine Zew ?_;refine tm 13 rfl kqz rfl (o_move wqz) ?_;refine th_two (i:=12) (j:=14) kqz ?_ ?_
  . skip
    refine oh_v rfl rfl rfl (o_ldP p41 rfl sq2z g1) ?_;refine th_one (i:=14) kqz ?_;refine oh_x rfl rfl rfl (o_buildSlice1 underlying41 sz57 z57 wqz rfl) ?_;rintro _ _ ⟨b46,rfl,rfl⟩;refine Zkk ?_;refine oh_x rfl rfl rfl (o_apB underlying41 underlying41 sz57 by57 z57 rfl (by decide) (by decide) rfl rfl rfl ctqz rfl (by first|exact bys_all _|exact ints_all _|exact wds_all _|exact bos_all _|rfl) sq1z (by first|exact bys_sn _ _|exact ints_sn _ _|exact wds_sn _ _|exact bos_sn _ _|exact (bys_append _ _).symm|rfl)) ?_;rintro _ _ ⟨a47,c47,rfl,hc47,rfl⟩;refine Zik ?_;refine Zks ?_;refine oh_u rfl rfl rfl (o_stP (ys:=(rls.set (p/64) ⟨.slice a47 (rls[p/64].rows.length+1) c47,rls[p/64].rows++[(⟨.slice a15 64 c15,(seenL s.ls[p/64]).set (p%64/8) (nm (stW p xs s))⟩:Value×List Nat)],rls[p/64].mark⟩).flatMap rcl) sz41 rfl rfl rfl ctqz oqz (fm_set (f:=rcl) (k:=2) (j:=0) (y:=⟨.slice a47 (rls[p/64].rows.length+1) c47,rls[p/64].rows++[(⟨.slice a15 64 c15,(seenL s.ls[p/64]).set (p%64/8) (nm (stW p xs s))⟩:Value×List Nat)],rls[p/64].mark⟩) (rcl_len _) hir (by decide) rfl rfl)) drqz ?_;refine Zlu ?_;have hnm:=stW_nm (p:=p) (s:=s) hb
    have hxl:RL.l ⟨.slice a47 (rls[p/64].rows.length+1) c47,rls[p/64].rows++[(⟨.slice a15 64 c15,(seenL s.ls[p/64]).set (p%64/8) (nm (stW p xs s))⟩:Value×List Nat)],rls[p/64].mark⟩=layL (p%64/8) (nm (stW p xs s)) s.ls[p/64]:=by
      have e:=hR.at_ _ hir hi
      unfold RL.l layL at*
      simp only [List.map_append,List.map_cons,List.map_nil]
      rw [←e]
    have hmap2:(rls.set (p/64) ⟨.slice a47 (rls[p/64].rows.length+1) c47,rls[p/64].rows++[(⟨.slice a15 64 c15,(seenL s.ls[p/64]).set (p%64/8) (nm (stW p xs s))⟩:Value×List Nat)],rls[p/64].mark⟩).map RL.l=(layS (p-p%8) (nm (stW p xs s)) s).ls:=by
      have:=lay_map (p:=p-p%8) (v:=nm (stW p xs s)) (x:=⟨.slice a47 (rls[p/64].rows.length+1) c47,rls[p/64].rows++[(⟨.slice a15 64 c15,(seenL s.ls[p/64]).set (p%64/8) (nm (stW p xs s))⟩:Value×List Nat)],rls[p/64].mark⟩) hmap (by rw [hq1];exact hi) (by rw [hq2];simp only [hq1];exact hxl)
      rwa [hq1] at this
    have hlf:=onLine_fields (layL ((p-p%8)%64/8) (nm (stW p xs s))) ((p-p%8)/64) s;refine tc_eq (A':=F*RDevC r (.slice (some ⟨bl,ol,none⟩) s.ls.length cl_) (rls.set (p/64) ⟨.slice a47 (rls[p/64].rows.length+1) c47,rls[p/64].rows++[(⟨.slice a15 64 c15,(seenL s.ls[p/64]).set (p%64/8) (nm (stW p xs s))⟩:Value×List Nat)],rls[p/64].mark⟩) av kvs (layS (p-p%8) (nm (stW p xs s)) s)) ?_ ?_
    . rw [←hf2 F ⟨.slice a47 (rls[p/64].rows.length+1) c47,rls[p/64].rows++[(⟨.slice a15 64 c15,(seenL s.ls[p/64]).set (p%64/8) (nm (stW p xs s))⟩:Value×List Nat)],rls[p/64].mark⟩ (layS (p-p%8) (nm (stW p xs s)) s) (layS_len _ _ _) hlf.2.1 hlf.1 hlf.2.2.1 hlf.2.2.2.1]
      simp only [List.length_append,List.length_singleton,List.map_append,List.map_cons,List.map_nil,bs_snoc]
      ac_rfl
    refine tc_pre (rdev_back (layS_wf hw hroom hnm) hmap2 (by rw [show (layS (p-p%8) (nm (stW p xs s)) s).arms=s.arms from hlf.2.1];exact hkv)) ?_;refine Zm ?_;refine tl_c rfl (o_call bd225 rfl (rdone_f F)) ?_;refine Zct ?_;exact ⟨.int .i64 (doneE (layS (p-p%8) (nm (stW p xs s)) s)),F*RDev r (doneS (layS (p-p%8) (nm (stW p xs s)) s)),res1 rfl rfl,Dr.sat drqz,rfl,rfl⟩
  . skip
    refine oh_x rfl rfl rfl (o_buildSlice1 underlying41 sz57 z57 wqz rfl) ?_;rintro _ _ ⟨b46,rfl,rfl⟩;refine Zdg ?_;refine oh_v rfl rfl rfl (o_ldP p41 rfl sq2z g1) ?_;refine th_one (i:=15) kqz ?_;refine oh_x rfl rfl rfl (o_apB underlying41 underlying41 sz57 by57 z57 rfl (by decide) (by decide) rfl rfl rfl ctqz rfl (by first|exact bys_all _|exact ints_all _|exact wds_all _|exact bos_all _|rfl) sq1z (by first|exact bys_sn _ _|exact ints_sn _ _|exact wds_sn _ _|exact bos_sn _ _|exact (bys_append _ _).symm|rfl)) ?_;rintro _ _ ⟨a47,c47,rfl,hc47,rfl⟩;refine Zik ?_;refine Zks ?_;refine oh_u rfl rfl rfl (o_stP (ys:=(rls.set (p/64) ⟨.slice a47 (rls[p/64].rows.length+1) c47,rls[p/64].rows++[(⟨.slice a15 64 c15,(seenL s.ls[p/64]).set (p%64/8) (nm (stW p xs s))⟩:Value×List Nat)],rls[p/64].mark⟩).flatMap rcl) sz41 rfl rfl rfl ctqz oqz (fm_set (f:=rcl) (k:=2) (j:=0) (y:=⟨.slice a47 (rls[p/64].rows.length+1) c47,rls[p/64].rows++[(⟨.slice a15 64 c15,(seenL s.ls[p/64]).set (p%64/8) (nm (stW p xs s))⟩:Value×List Nat)],rls[p/64].mark⟩) (rcl_len _) hir (by decide) rfl rfl)) drqz ?_;refine Zlu ?_;have hnm:=stW_nm (p:=p) (s:=s) hb
    have hxl:RL.l ⟨.slice a47 (rls[p/64].rows.length+1) c47,rls[p/64].rows++[(⟨.slice a15 64 c15,(seenL s.ls[p/64]).set (p%64/8) (nm (stW p xs s))⟩:Value×List Nat)],rls[p/64].mark⟩=layL (p%64/8) (nm (stW p xs s)) s.ls[p/64]:=by
      have e:=hR.at_ _ hir hi
      unfold RL.l layL at*
      simp only [List.map_append,List.map_cons,List.map_nil]
      rw [←e]
    have hmap2:(rls.set (p/64) ⟨.slice a47 (rls[p/64].rows.length+1) c47,rls[p/64].rows++[(⟨.slice a15 64 c15,(seenL s.ls[p/64]).set (p%64/8) (nm (stW p xs s))⟩:Value×List Nat)],rls[p/64].mark⟩).map RL.l=(layS (p-p%8) (nm (stW p xs s)) s).ls:=by
      have:=lay_map (p:=p-p%8) (v:=nm (stW p xs s)) (x:=⟨.slice a47 (rls[p/64].rows.length+1) c47,rls[p/64].rows++[(⟨.slice a15 64 c15,(seenL s.ls[p/64]).set (p%64/8) (nm (stW p xs s))⟩:Value×List Nat)],rls[p/64].mark⟩) hmap (by rw [hq1];exact hi) (by rw [hq2];simp only [hq1];exact hxl)
      rwa [hq1] at this
    have hlf:=onLine_fields (layL ((p-p%8)%64/8) (nm (stW p xs s))) ((p-p%8)/64) s;refine tc_eq (A':=F*RDevC r (.slice (some ⟨bl,ol,none⟩) s.ls.length cl_) (rls.set (p/64) ⟨.slice a47 (rls[p/64].rows.length+1) c47,rls[p/64].rows++[(⟨.slice a15 64 c15,(seenL s.ls[p/64]).set (p%64/8) (nm (stW p xs s))⟩:Value×List Nat)],rls[p/64].mark⟩) av kvs (layS (p-p%8) (nm (stW p xs s)) s)) ?_ ?_
    . rw [←hf2 F ⟨.slice a47 (rls[p/64].rows.length+1) c47,rls[p/64].rows++[(⟨.slice a15 64 c15,(seenL s.ls[p/64]).set (p%64/8) (nm (stW p xs s))⟩:Value×List Nat)],rls[p/64].mark⟩ (layS (p-p%8) (nm (stW p xs s)) s) (layS_len _ _ _) hlf.2.1 hlf.1 hlf.2.2.1 hlf.2.2.2.1]
      simp only [List.length_append,List.length_singleton,List.map_append,List.map_cons,List.map_nil,bs_snoc]
      ac_rfl
    refine tc_pre (rdev_back (layS_wf hw hroom hnm) hmap2 (by rw [show (layS (p-p%8) (nm (stW p xs s)) s).arms=s.arms from hlf.2.1];exact hkv)) ?_;refine Zm ?_;refine tl_c rfl (o_call bd225 rfl (rdone_f F)) ?_;refine Zct ?_;exact ⟨.int .i64 (doneE (layS (p-p%8) (nm (stW p xs s)) s)),F*RDev r (doneS (layS (p-p%8) (nm (stW p xs s)) s)),res1 rfl rfl,Dr.sat drqz,rfl,rfl⟩
theorem rword_c {A R:SP}{C:SP->SP}{r:Nat}{s:DevS}(hc:Ct A (RDev r s) R C:=by exact cbqz){c m p:Nat}{a:Option Addr}{xs:List Nat}(hr:Rs R a (bys xs):=by exact rbqz)(hm:xs.length=m:=by first|assumption|rfl)(hx:m<=8-p%8:=by omega)(hb:∀x∈xs,x<256:=by assumption)(hi:p/64<s.ls.length:=by omega)(hroom:Room 1 s:=by assumption):
    Fn Tryz.prog 181 #[pz r,vn p,.slice a m c] A (λ v B=>v= .int .i64 (doneE (layS (p-p%8) (nm (stW p xs s)) s))/\ B=C (RDev r (doneS (layS (p-p%8) (nm (stW p xs s)) s)))):=by
  obtain ⟨rfl,hC⟩:=hc;exact (rword_f R hr hm hx hb hi hroom).mono λ _ _ h=>⟨h.1,by rw [hC];exact h.2⟩
theorem tmod8 {p:Int}:p.tmod 8=0↔p%8=0:=⟨λ h=>Int.emod_eq_zero_of_dvd (Int.dvd_of_tmod_eq_zero h),λ h=>Int.tmod_eq_zero_of_dvd (Int.dvd_of_emod_eq_zero h)⟩
theorem fl1_no {p:Int}{s:DevS}(hoff:s.off=false)(h:p<0∨(s.ls.length:Int)*64<=p):fl1 p s=(6,s):=by
  have e:rdy s.ls.length s.off p 1=6:=(by unfold rdy;rw [hoff,if_neg (by decide),if_pos oqz])
  unfold fl1;rw [e,if_pos (by decide)]
theorem st8_no {p:Int}{v:Nat}{s:DevS}(hoff:s.off=false)(h:p%8≠0∨rdy s.ls.length s.off p 8≠0):st8 p v s=(6,s):=by
  unfold st8
  by_cases hz:rdy s.ls.length s.off p 8=0
  . rw [if_neg oqz,if_pos oqz]
  rw [if_pos hz]
  unfold rdy at hz ⊢
  rw [hoff] at hz ⊢
  rw [if_neg (by decide)] at hz ⊢
  split at hz
  . rename_i h1;rw [if_pos h1]
  exact absurd rfl hz
theorem stW_whole {p v:Nat}{s:DevS}(h:p%8=0):stW p (le 8 v) s=le 8 v:=by
  unfold stW
  rw [h,List.take_of_length_le (by rw [le_length];omega)]
  unfold spl
  rw [List.take_zero,List.nil_append,List.drop_of_length_le (by rw [le_length,le_length];omega),List.append_nil]
theorem nm_le8 {v:Nat}(h:v<18446744073709551616):nm (le 8 v)=v:=by rw [nm_le];exact Nat.mod_eq_of_lt h
theorem Zli {p r:Prop}(k:r)(h:Kq r->p:=by intro k;refine Zcl ?_;refine Zz ?_;refine tv (o_load p4 rfl (by repeat (first|exact rdevC_r|apply has_left)) rfl) ?_;exact k.o):p:=h ⟨k⟩
theorem Zlj {p r:Prop}(k:r)(h:Kq r->p:=by intro k;refine Zfw ?_;refine Zb6 ?_;exact k.o):p:=h ⟨k⟩
theorem rStore8_f (F:SP){r v:Nat}{p:Int}{s:DevS}(hp: -9223372036854775808<=p/\ p<=9223372036854775807)(hv:v<18446744073709551616)(hroom:Room 1 s):
    Fn Tryz.prog 263 #[pz r,.int .i64 p,.int .u64 (v:Nat)] (F*RDev r s) (λ v_ B=>v_= .int .i64 (st8 p v s).1/\ B=F*RDev r (st8 p v s).2):=by
  refine fn_enterW func263 rfl ntmps263 (by simp) ?_;refine tc_rdev λ hw lv rls av kvs hmap hkv=> ?_
  have hpos:=hw.pos;have htop:=hw.top;refine tc_have (λ _ _ h=>rdevR_of hw hmap h) λ hR=> ?_
  obtain ⟨bl,ol,cl_,rfl,hlc,hll⟩:=hR.lv;have hlen:=hR.len
  
  refine Zli ?_;refine nq ?_;refine tc_cond rfl (sbq ?_) (λ h=> ?_)
  . intro h;refine Zb6 ?_;have e:st8 p v s=(5,s):=(by unfold st8 rdy;rw [h];rfl);rw [e]
    exact ⟨.int .i64 5,F*RDev r s,res1 rfl rfl,rdev_back hw hmap hkv,rfl,rfl⟩
  have hoff:s.off=false:=(by simpa using h);have e5:rdy s.ls.length s.off p 8=rdy s.ls.length false p 8:=(by rw [hoff]);refine Zdf ?_;refine tv (o_rem (b:=8) rfl rfl (by decide)) ?_;refine Zdr ?_;refine tl_bool (d:=14) rfl (λ h=> ?_) (λ h=> ?_)
  . have hne:p%8≠0:=λ e=>by simp at h;exact h (tmod8.2 e)
    have e:st8 p v s=(6,s):=st8_no hoff (.inl hne);refine Z8 ?_;refine Zlj ?_;rw [e]
    exact ⟨.int .i64 6,F*RDev r s,res1 rfl rfl,rdev_back hw hmap hkv,rfl,rfl⟩
  have hmod:p%8=0:=tmod8.1 (by simpa using h);refine Z2 ?_;refine tl_c rfl (o_call bd180 rfl (rinside_f _ hR hp (by decide))) ?_;refine Zbi ?_;refine Zft ?_;refine tc_cond rfl (λ h=> ?_) (λ h=> ?_)
  . have hz:rdy s.ls.length s.off p 8≠0:=(by rw [e5];simpa using h);have e:st8 p v s=(6,s):=st8_no hoff (.inr hz);refine Zb6 ?_;rw [e]
    exact ⟨.int .i64 6,F*RDev r s,res1 rfl rfl,rdev_back hw hmap hkv,rfl,rfl⟩
  have hz:rdy s.ls.length s.off p 8=0:=(by rw [e5];simpa using h);obtain ⟨q,rfl⟩:=Int.eq_ofNat_of_zero_le (rdy0 hz).2.1;have hr0:=rdy0 hz;have e:st8 (q:Int) v s=(doneE (layS q v s),doneS (layS q v s)):=(by unfold st8;rw [if_neg oqz,if_neg oqz,Int.toNat_natCast]);refine Zhp ?_;refine tc_pre (rdev_back hw hmap hkv) ?_;refine Zh2 ?_;refine tl_c rfl (o_call bd235 rfl (Little_c (v:=v) (n:=8))) ?_;rintro _ _ ⟨a23,c23,rfl,hc23,rfl⟩;refine tl_c rfl (o_call bd181 rfl (rword_c (p:=q) (xs:=le 8 v) (hm:=le_length 8 v) (hb:=le_bytes 8 v))) ?_;refine Zct ?_;have e0:q-q%8=q:=(by omega);rw [stW_whole oqz,nm_le8 hv,e0,←show (st8 (q:Int) v s).1=doneE (layS q v s) by rw [e],←show (st8 (q:Int) v s).2=doneS (layS q v s) by rw [e]]
  exact ⟨.int .i64 (st8 (q:Int) v s).1,F*RDev r (st8 (q:Int) v s).2,res1 rfl (by rw [e];rfl),Dr.sat drqz,rfl,rfl⟩
theorem rFlush_f (F:SP){r:Nat}{p:Int}{s:DevS}(hp: -9223372036854775808<=p/\ p<=9223372036854775807):
    Fn Tryz.prog 262 #[pz r,.int .i64 p] (F*RDev r s) (λ v_ B=>v_= .int .i64 (fl1 p s).1/\ B=F*RDev r (fl1 p s).2):=by
  refine fn_enterW func262 rfl ntmps262 (by simp) ?_;refine tc_rdev λ hw lv rls av kvs hmap hkv=> ?_
  have hpos:=hw.pos;have htop:=hw.top;refine tc_have (λ _ _ h=>rdevR_of hw hmap h) λ hR=> ?_
  obtain ⟨bl,ol,cl_,rfl,hlc,hll⟩:=hR.lv;have hlen:=hR.len
  
  refine Zli ?_;refine nq ?_;refine tc_cond rfl (sbq ?_) (λ h=> ?_)
  . intro h;refine Zb6 ?_;have e:fl1 p s=(5,s):=(by unfold fl1 rdy;rw [h];rfl);rw [e]
    exact ⟨.int .i64 5,F*RDev r s,res1 rfl rfl,rdev_back hw hmap hkv,rfl,rfl⟩
  have hoff:s.off=false:=(by simpa using h);refine Zdf ?_;refine Zdq ?_;refine tl_bool (d:=11) rfl (λ h=> ?_) (λ h=> ?_)
  . have h:p<0:=(by simpa using h);have e:fl1 p s=(6,s):=fl1_no hoff oqz;refine Zdl ?_;refine Zlj ?_;rw [e]
    exact ⟨.int .i64 6,F*RDev r s,res1 rfl rfl,rdev_back hw hmap hkv,rfl,rfl⟩
  have hp0:0<=p:=(by simpa using h);refine tlm ?_;refine Zfj ?_;refine tv (o_load p3 rfl (by repeat (first|exact rdevC_r|apply has_left)) rfl) ?_;refine tv (o_geq rfl rfl) ?_;refine Zft ?_;refine tc_cond rfl (λ h=> ?_) (λ h=> ?_)
  . have h:((s.ls.length*64:Nat):Int)<=p:=(by simpa using h);have e:fl1 p s=(6,s):=fl1_no hoff oqz;refine Zb6 ?_;rw [e]
    exact ⟨.int .i64 6,F*RDev r s,res1 rfl rfl,rdev_back hw hmap hkv,rfl,rfl⟩
  have h:p<((s.ls.length*64:Nat):Int):=(by simpa using h);obtain ⟨q,rfl⟩:=Int.eq_ofNat_of_zero_le hp0;have hz:rdy s.ls.length s.off (q:Int) 1=0:=(by unfold rdy;rw [hoff,if_neg (by decide),if_neg oqz]);have e:fl1 (q:Int) s=(doneE (flushS q s),doneS (flushS q s)):=(by unfold fl1;rw [if_neg oqz,Int.toNat_natCast]);have hi:q/64<s.ls.length:=(by omega);have hir:q/64<rls.length:=(by omega);obtain ⟨ba,oa,ca,g1,hca,har⟩:=hR.allC hir;have hrl:=hR.rows hir hi;have hps:=hR.pos hir;have hsm:=hR.small hir;have hwl:=hw.line _ (List.getElem_mem hi);refine Zhp ?_;obtain ⟨R,hf1,hf2⟩:=rdevC_focus (r:=r) (lv:=(.slice (some ⟨bl,ol,none⟩) s.ls.length cl_)) (av:=av) (kvs:=kvs) (s:=s) (n:=s.ls.length) hir rfl;refine tc_eq (hf1 F) ?_;refine tc_regh (S:=F*R*pt r (cl (rdcs (.slice (some ⟨bl,ol,none⟩) s.ls.length cl_) s av) 195)) mo drqz ?_
  show TH _ _ _ _ _ 20 (Array.replicate 20 false) _ _
  refine Zq ?_;refine Zcy ?_;refine tm 4 rfl kqz rfl (o_move wqz) ?_;refine tm 5 rfl kqz rfl (o_quoN (b:=64) rfl rfl oqz) ?_;refine tm 6 rfl kqz rfl (o_move wqz) ?_;refine tm 7 rfl kqz rfl (o_nilCheck rfl) ?_;refine tm 8 rfl kqz rfl (o_fieldAddr (o:=1) underlying195 rfl rfl sz193 rfl) ?_;refine tm 9 rfl kqz rfl (by first|exact o_load p193 rfl hsqz rfl|exact o_loadC p193 rfl (by assumption)) ?_;refine tm 10 rfl kqz rfl (o_move wqz) ?_;refine tm 11 rfl kqz rfl (o_quoN (b:=64) rfl rfl oqz) ?_;refine tm 12 rfl kqz rfl (o_ixP underlying193 sz197 rfl rfl sq1z sq0z) ?_;refine tm 13 rfl kqz rfl (o_faP (m:=0) (o:=0) underlying197 rfl rfl sz41 rfl sq0z) ?_;refine th_one (i:=14) kqz ?_;refine oh_v rfl rfl rfl (o_ldP p41 rfl sq2z g1) ?_;refine tm 15 rfl kqz rfl (o_len underlying41 rfl) ?_;refine tm 16 rfl kqz rfl (by first|exact o_subI rfl rfl oqz|exact o_sub rfl rfl) ?_;refine tm 17 rfl kqz rfl (o_ixP underlying193 sz197 rfl rfl sq1z sq0z) ?_;refine tm 18 rfl kqz rfl (o_faP (m:=0) (o:=1) underlying197 rfl rfl sz3 rfl sq0z) ?_;refine th_one (i:=19) kqz ?_;refine oh_u rfl rfl rfl (o_stP (ys:=(rls.set (q/64) ⟨rls[q/64].v,rls[q/64].rows,(rls[q/64].rows.length:Int)-1⟩).flatMap rcl) sz3 rfl rfl rfl ctqz oqz (fm_set (f:=rcl) (k:=2) (j:=1) (y:=⟨rls[q/64].v,rls[q/64].rows,(rls[q/64].rows.length:Int)-1⟩) (rcl_len _) hir (by decide) rfl rfl)) drqz ?_;refine Zlu ?_;have hlf:=onLine_fields flushL (q/64) s;refine tc_eq (hf2 F ⟨rls[q/64].v,rls[q/64].rows,(rls[q/64].rows.length:Int)-1⟩ (flushS q s) hlf.2.2.2.2 hlf.2.1 hlf.1 hlf.2.2.1 hlf.2.2.2.1) ?_
  refine tc_pre (rdev_back (flushS_wf hw) (by
    unfold flushS;rw [onLine_at hi,List.map_set,hmap];congr 1
    have e:=hR.at_ _ hir hi
    unfold flushL;rw [←e];simp [RL.l]) (by rw [show (flushS q s).arms=s.arms from hlf.2.1];exact hkv)) ?_
  refine Zm ?_;refine tl_c rfl (o_call bd225 rfl (rdone_f F)) ?_;refine Zct ?_;rw [e]
  exact ⟨.int .i64 (doneE (flushS q s)),F*RDev r (doneS (flushS q s)),res1 rfl rfl,Dr.sat drqz,rfl,rfl⟩
end Go.Vl

namespace Go.Vl
open Go Go.Proofs Go.Proofs.Tryz
theorem stW_min {p n:Nat}{b:List Nat}{s:DevS}(h:n=min b.length (8-p%8)):stW p (b.take n) s=stW p b s:=by
  rcases Nat.le_total b.length (8-p%8) with h1|h1
  . exact stW_take' oqz
  exact stW_take oqz
theorem mpF_wf {i:Nat}{s:DevS}(h:WfD s):WfD { s with ls:=mp fenceL i s.ls }:=⟨by simp only [mp_length];exact h.pos,by simp only [mp_length];exact h.top,λ l hl=>by
  obtain ⟨j,hj,rfl⟩:=List.mem_iff_getElem.1 hl
  simp only [mp,List.getElem_mapIdx]
  rw [mp_length] at hj
  split
  . exact fenceL_wf (h.line _ (List.getElem_mem _))
  exact h.line _ (List.getElem_mem _),h.arms,h.after,h.keeps⟩
theorem acs_at0 {kvs:List Value}{ars:List (Int×List Int)}{i:Nat}(h:kvs.length=ars.length)(hi:i<ars.length):(acs kvs ars)[i*2+0]? =some (.int .i64 ars[i].1):=by
  have e:=acs_at h hi;have:=congrArg (λ l=>l[0]?) e
  simpa [List.getElem?_take,List.getElem?_drop] using this
theorem acs_at1 {kvs:List Value}{ars:List (Int×List Int)}{i:Nat}(h:kvs.length=ars.length)(hi:i<ars.length):(acs kvs ars)[i*2+1]? =some (kvs[i]'oqz):=by
  have e:=acs_at h hi;have:=congrArg (λ l=>l[1]?) e
  simpa [List.getElem?_take,List.getElem?_drop] using this
theorem rarm_back {F J:SP}{r:Nat}{lv:Value}{rls:List RL}{kvs:List Value}{v av:Value}{x:Int×List Int}{s:DevS}(hw:WfD { s with arms:=s.arms++[x] })(hmap:rls.map RL.l=s.ls)(hkv:kvs.length=s.arms.length){g:Gh}{w:World}
    (hs:sat g w (F*KeepsR kvs s.arms*Bs rlR rls*Sl 2 lv s.ls.length (rls.flatMap rcl)*pt r (cl (rdcs lv s av) 195)*Sl 1 v x.2.length (ints x.2)*Sl 2 av (s.arms.length+1) (acs kvs s.arms++[.int .i64 x.1,v])*J)):sat g w (F*RDev r { s with arms:=s.arms++[x] }):=by
  have h1:=hs.left;rw [star_swap] at h1
  have h2:=sl_share h1;refine rdev_back (lv:=lv) (rls:=rls) (av:=av) (kvs:=kvs++[v]) hw hmap (by simp [hkv]) g w ?_;refine h2.perm ?_
  unfold RDevC ArmsR
  simp only [acs_snoc hkv,keepsR_snoc hkv,List.length_append,List.length_singleton]
  rw [show rdcs lv { s with arms:=s.arms++[x] } av=rdcs lv s av from rfl]
  ac_rfl
attribute [local irreducible] Sl pt ro imgS
theorem Zgo {p r:Prop}(k:r)(h:Kq r->p:=by intro k;refine Zj ?_;refine Zp ?_;exact k.o):p:=h ⟨k⟩
theorem Zlv {p r:Prop}(k:r)(h:Kq r->p:=by intro k;refine Z2 ?_;refine tv adqz ?_;exact k.o):p:=h ⟨k⟩
theorem rStoreW_f (F:SP){a:Option Addr}{c m r:Nat}{p0:Int}{s:DevS}{xs:List Nat}(hr:Rs F a (bys xs))(hm:xs.length=m)(hmc:m<=c)(hb:∀x∈xs,x<256)(hml:m<=140737488351232)(hp: -9223372036854775808<=p0/\ p0<=9223372036854775807)(hroom:rdy s.ls.length s.off p0 m=0->Room m s):
    Fn Tryz.prog 124 #[pz r,.int .i64 p0,.slice a m c] (F*RDev r s) (λ v B=>v= .int .i64 (sto p0 xs s).1/\ B=F*RDev r (sto p0 xs s).2):=by
  refine fn_enterW func124 rfl ntmps124 (by simp) ?_;refine tc_rdev λ hw lv rls av kvs hmap hkv=> ?_
  have hpos:=hw.pos;have htop:=hw.top;refine tc_have (λ _ _ h=>rdevR_of hw hmap h) λ hR=> ?_
  obtain ⟨bl,ol,cl_,rfl,hlc,hll⟩:=hR.lv;have hlen:=hR.len
  
  refine Zli ?_;refine nq ?_;refine tc_cond rfl (sbq ?_) (λ h=> ?_)
  . intro h;refine Zb6 ?_;have e:sto p0 xs s=(5,s):=(by unfold sto rdy;rw [h];rfl);rw [e]
    exact ⟨.int .i64 5,F*RDev r s,res1 rfl rfl,rdev_back hw hmap hkv,rfl,rfl⟩
  have hoff:s.off=false:=(by simpa using h);have e5:rdy s.ls.length s.off p0 m=rdy s.ls.length false p0 m:=(by rw [hoff]);refine Zdf ?_;refine Zgn ?_;refine tl_c rfl (o_call bd180 rfl (rinside_f _ hR hp oqz)) ?_;refine Zim ?_;refine tc_cond rfl (λ h=> ?_) (λ h=> ?_)
  . have hz:rdy s.ls.length s.off p0 m≠0:=(by rw [e5];simpa using h);have e:sto p0 xs s=(6,s):=(by unfold sto;rw [hm,if_pos hz];rw [e5] at hz ⊢;unfold rdy at hz ⊢;simp at hz ⊢;exact hz);refine Zb6 ?_;rw [e]
    exact ⟨.int .i64 6,F*RDev r s,res1 rfl rfl,rdev_back hw hmap hkv,rfl,rfl⟩
  have hz:rdy s.ls.length s.off p0 m=0:=(by rw [e5];simpa using h);obtain ⟨q,rfl⟩:=Int.eq_ofNat_of_zero_le (rdy0 hz).2.1;have hr0:=rdy0 hz;have hsto:sto (q:Int) xs s=storeF xs.length q xs s:=(by unfold sto;rw [hm,if_neg oqz];rfl);rw [hsto]
  refine tc_pre (rdev_back hw hmap hkv) ?_;refine Zc ?_;refine Zgo ?_;refine tc_loop (λ kk ρ BB=>∃ (k:Nat) (s1:DevS),(k<=m)/\ (storeF (xs.drop k).length (q+k) (xs.drop k) s1=storeF xs.length q xs s)/\ (Room (m-k) s1)/\ (s1.ls.length=s.ls.length)/\ kk=m-k/\ ρ 7=(vn k)/\ ρ 0=(pz r)/\ ρ 1=(vn q)/\ ρ 2= .slice a m c/\ BB=F*RDev r s1) (m:=m-(0)) ?_ ?_
  . exact ⟨0,s,by omega,rfl,hroom hz,rfl,rfl,rfl,rfl,rfl,rfl,rfl⟩
  intro k ρ B hI;obtain ⟨k,s1,hp0,hp1,hp2,hp3,hkk1,hE7,hE0,hE1,hE2,rfl⟩:=hI;refine te 7 hE7 ?_;refine te 0 hE0 ?_;refine te 1 hE1 ?_;refine te 2 hE2 ?_;refine Zju ?_;refine tc_cond rfl (λ h=> ?_) (sbq ?_)
  . have hk:k<m:=(by simp at h;omega);have hb0:xs.drop k≠[]:=(by intro e;have:=congrArg List.length e;rw [List.length_drop] at this;simp at this;omega);have hdl:(xs.drop k).length=m-k:=(by rw [List.length_drop];omega);refine Zi4 ?_;refine Zb7 ?_;refine tv adqz ?_;refine tl_env (d:=26) (v:=(vn (q+k))) (rfl) ?_;refine Zla ?_;refine tl_env (d:=28) (v:= .int .i64 ((8-(q+k)%8:Nat):Int)) (by show Value.int .i64 _=_;congr 1;omega) ?_;refine Zd1 ?_;refine Zbp ?_;refine Zdj ?_;refine Ze4 ?_;refine tc_cut (λ ρ BB=>ρ 8= .int .i64 ((min (m-k) (8-(q+k)%8):Nat):Int)/\ ρ 0=(pz r)/\ ρ 1=(vn q)/\ ρ 2= .slice a m c/\ ρ 7=(vn k)/\ BB=F*RDev r s1) ?_ ?_
    . skip
      refine tc_cond rfl (sbq ?_) (sbq ?_)
      . intro h;refine Zm ?_;refine tv (o_len underlying57 rfl) ?_;refine Zdj ?_;refine Zes ?_;exact ⟨(by (try simp at h);show Value.int .i64 _=Value.int .i64 _;congr 1;omega),rfl,rfl,rfl,rfl,rfl⟩
      intro h;refine tc_skip ?_;exact ⟨(by (try simp at h);show Value.int .i64 _=Value.int .i64 _;congr 1;omega),rfl,rfl,rfl,rfl,rfl⟩
    intro ρ B hI;obtain ⟨hE8,hE0,hE1,hE2,hE7,rfl⟩:=hI;refine q_then_n ?_;refine te 8 hE8 ?_;refine te 0 hE0 ?_;refine te 1 hE1 ?_;refine te 2 hE2 ?_;refine te 7 hE7 ?_;refine Zb ?_;refine Zlv ?_;refine tl_env (d:=42) (v:=(vn (q+k))) (rfl) ?_;refine Z2 ?_;refine Zlv ?_;refine tl_env (d:=47) (v:= .int .i64 ((k+min (m-k) (8-(q+k)%8):Nat):Int)) (rfl) ?_;refine tv (o_slice (l:=k) (h:=k+min (m-k) (8-(q+k)%8)) underlying57 sz5 rfl (bnd_nat rfl) (bnd_nat rfl) oqz oqz) ?_;refine tl_env (d:=48) (v:= .slice (cutAddr a c k 1) (min (m-k) (8-(q+k)%8)) (c-k)) (by show Value.slice _ (k+min (m-k) (8-(q+k)%8)-k) _=_;rw [Nat.add_sub_cancel_left]) ?_;have hrm1:Room 1 s1:=λ l hl=>by have:=hp2 l hl;omega
    refine tl_c rfl (o_call bd181 rfl (rword_c (p:=q+k) (xs:=((xs.drop k).take (min (m-k) (8-(q+k)%8)))) (hr:=rs_mid hr oqz) (hm:=by rw [List.length_take,hdl];omega) (hx:=by omega) (hb:=λ x hx=>hb x (List.mem_of_mem_drop (List.mem_of_mem_take hx))) (hi:=by omega))) ?_;rintro _ _ ⟨rfl,rfl⟩;rw [stW_min (p:=q+k) (b:=xs.drop k) (by rw [hdl])]
    refine Zd1 ?_;refine Zl ?_;refine tc_cond rfl (λ h=> ?_) (λ h=> ?_)
    . have h:doneE (layS (q+k-(q+k)%8) (nm (stW (q+k) (xs.drop k) s1)) s1)≠0:=(by simpa using h);have e:storeF xs.length q xs s=(doneE (layS (q+k-(q+k)%8) (nm (stW (q+k) (xs.drop k) s1)) s1),doneS (layS (q+k-(q+k)%8) (nm (stW (q+k) (xs.drop k) s1)) s1)):=(by rw [←hp1,storeF_step hb0,if_pos h]);refine Zjk ?_;refine q_then_r (q_block_r (q_then_r (q_block_r (q_then_r ?_))))
      first
      |(rw [e];exact ⟨.int .i64 (doneE (layS (q+k-(q+k)%8) (nm (stW (q+k) (xs.drop k) s1)) s1)),F*RDev r (doneS (layS (q+k-(q+k)%8) (nm (stW (q+k) (xs.drop k) s1)) s1)),res1 rfl rfl,Dr.sat drqz,rfl,rfl⟩)
      | (obtain rfl : k = m := by omega
         have e:storeF xs.length q xs s=(0,s1):=(by rw [←hp1,List.drop_of_length_le oqz,storeF_nil])
         rw [e];exact ⟨.int .i64 0,F*RDev r s1,res1 rfl rfl,λ _ _ h=>h,rfl,rfl⟩)
    have h:doneE (layS (q+k-(q+k)%8) (nm (stW (q+k) (xs.drop k) s1)) s1)=0:=(by simpa using h);obtain ⟨hd1,hd2⟩:=doneE_ok h
    have hdd:(xs.drop k).drop (8-(q+k)%8)=xs.drop (k+min (m-k) (8-(q+k)%8)):=by
      rw [List.drop_drop]
      rcases Nat.le_total (m-k) (8-(q+k)%8) with h|h
      . rw [Nat.min_eq_left h,List.drop_of_length_le oqz,List.drop_of_length_le oqz]
      rw [Nat.min_eq_right h]
    have hstep:storeF (xs.drop (k+min (m-k) (8-(q+k)%8))).length (q+(k+min (m-k) (8-(q+k)%8))) (xs.drop (k+min (m-k) (8-(q+k)%8))) (doneS (layS (q+k-(q+k)%8) (nm (stW (q+k) (xs.drop k) s1)) s1))=storeF xs.length q xs s:=by
      rw [←hp1,storeF_step hb0,if_neg (by simpa using h),hdd,hdl,←Nat.add_assoc]
    have hrm2:Room (m-(k+min (m-k) (8-(q+k)%8))) (doneS (layS (q+k-(q+k)%8) (nm (stW (q+k) (xs.drop k) s1)) s1)):=λ l hl=>by
      rw [hd2] at hl
      have h1:Room ((m-k-1)+1) s1:=λ l hl=>by have:=hp2 l hl;omega
      have:=onLine_room (f:=layL ((q+k-(q+k)%8)%64/8) (nm (stW (q+k) (xs.drop k) s1))) (i:=(q+k-(q+k)%8)/64) h1 (λ l=>by simp [layL]) l hl
      omega
    refine Zc ?_;refine Zfn ?_;refine tv adqz ?_;refine Zdp ?_;exact ⟨_,by omega,k+min (m-k) (8-(q+k)%8),_,by omega,hstep,hrm2,by rw [hd2,layS_len];exact hp3,rfl,rfl,rfl,rfl,rfl,rfl⟩
  intro h;refine Zgf ?_
  first
  |(rw [e];exact ⟨.int .i64 (doneE (layS (q+k-(q+k)%8) (nm (stW (q+k) (xs.drop k) s1)) s1)),F*RDev r (doneS (layS (q+k-(q+k)%8) (nm (stW (q+k) (xs.drop k) s1)) s1)),res1 rfl rfl,Dr.sat drqz,rfl,rfl⟩)
  | (obtain rfl : k = m := by omega
     have e:storeF xs.length q xs s=(0,s1):=(by rw [←hp1,List.drop_of_length_le oqz,storeF_nil])
     rw [e];exact ⟨.int .i64 0,F*RDev r s1,res1 rfl rfl,λ _ _ h=>h,rfl,rfl⟩)
theorem Zjy {p r:Prop}(k:r)(h:Kq r->p:=by intro k;refine Zc ?_;refine Zce ?_;exact k.o):p:=h ⟨k⟩
theorem Zil {p r:Prop}(k:r)(h:Kq r->p:=by intro k;refine Zfy ?_;refine tv (o_faP (m:=0) (o:=1) underlying197 rfl rfl sz3 rfl sq0z) ?_;exact k.o):p:=h ⟨k⟩
theorem Zig {p r:Prop}(k:r)(h:Kq r->p:=by intro k;refine tm 21 rfl kqz rfl (o_slice underlying41 sz57 rfl (bnd_some rfl oqz) bnd_none oqz oqz) ?_;refine tm 22 rfl kqz rfl (o_ixP underlying193 sz197 rfl rfl sq1z sq0z) ?_;exact k.o):p:=h ⟨k⟩
theorem Zkt {p r:Prop}(k:r)(h:Kq r->p:=by intro k;refine tm 23 rfl kqz rfl (o_faP (m:=0) (o:=0) underlying197 rfl rfl sz41 rfl sq0z) ?_;refine th_one (i:=24) kqz ?_;exact k.o):p:=h ⟨k⟩
theorem Zfo {p r:Prop}(k:r)(h:Kq r->p:=by intro k;refine Zm ?_;refine tv (o_nilCheck rfl) ?_;exact k.o):p:=h ⟨k⟩
theorem Ziq {p r:Prop}(k:r)(h:Kq r->p:=by intro k;refine tv (o_fieldAddr (o:=1) underlying195 rfl rfl sz193 rfl) ?_;refine tv (by first|exact o_load p193 rfl hsqz rfl|exact o_loadC p193 rfl (by assumption)) ?_;exact k.o):p:=h ⟨k⟩
theorem rFence_f (F:SP){r:Nat}{s:DevS}:
    Fn Tryz.prog 223 #[pz r] (F*RDev r s) (λ v B=>v= .int .i64 (fe s).1/\ B=F*RDev r (fe s).2):=by
  refine fn_enterW func223 rfl ntmps223 (by simp) ?_;refine tc_rdev λ hw lv rls av kvs hmap hkv=> ?_
  have hpos:=hw.pos;have htop:=hw.top;refine tc_have (λ _ _ h=>rdevR_of hw hmap h) λ hR=> ?_
  obtain ⟨bl,ol,cl_,rfl,hlc,hll⟩:=hR.lv;have hlen:=hR.len
  
  refine Zli ?_;refine nq ?_;refine tc_cond rfl (sbq ?_) (λ h=> ?_)
  . intro h;refine Zb6 ?_;have e:fe s=(5,s):=(by unfold fe;rw [if_pos h]);rw [e]
    exact ⟨.int .i64 5,F*RDev r s,res1 rfl rfl,rdev_back hw hmap hkv,rfl,rfl⟩
  have hoff:s.off=false:=(by simpa using h);have e:fe s=(doneE (fenceS s),doneS (fenceS s)):=(by unfold fe;rw [if_neg (by rw [hoff];decide)]);rw [e]
  refine Zjy ?_;refine tc_loop (λ kk ρ BB=>∃ (i:Nat) (rls1:List RL),(i<=s.ls.length)/\ (rls1.map RL.l=mp fenceL i s.ls)/\ kk=s.ls.length-i/\ ρ 3=(vn i)/\ ρ 0=(pz r)/\ BB=F*RDevC r (.slice (some ⟨bl,ol,none⟩) s.ls.length cl_) rls1 av kvs { s with ls:=mp fenceL i s.ls }) (m:=s.ls.length-(0)) ?_ ?_
  . exact ⟨0,rls,by omega,by rw [mp_zero];exact hmap,rfl,rfl,rfl,by rw [mp_zero]⟩
  intro k ρ B hI;obtain ⟨i,rls1,hp0,hp1,hkk1,hE3,hE0,rfl⟩:=hI;refine te 3 hE3 ?_;refine te 0 hE0 ?_;refine Ze ?_;refine Zfb ?_;refine tv (o_load p193 rfl (by repeat (first|exact rdevC_r|apply has_left)) rfl) ?_;refine tv (o_len underlying193 rfl) ?_;refine Zn ?_;refine tc_cond rfl (λ h=> ?_) (λ h=> ?_)
  . have hi:i<s.ls.length:=(by simp at h;omega);have hgl:(mp fenceL i s.ls).length=s.ls.length:=mp_length _ _ _;refine tc_have (λ _ _ h=>rdevR_of (mpF_wf hw) hp1 h) λ hR1=> ?_
    have hir:i<rls1.length:=(by rw [hR1.len,hgl];exact hi);obtain ⟨ba,oa,ca,g1,hca,har⟩:=hR1.allC hir;have hll1:=hR1.lvR;have hsm:=hR1.small hir;have hps:=hR1.pos hir;have g2:=rcl_at1 hir;have hwl:=(mpF_wf (i:=i) hw).line _ (List.getElem_mem (show i<(mp fenceL i s.ls).length by omega));have hmk:=hR1.mark hir (show i<(mp fenceL i s.ls).length by omega);have hrl:=hR1.rows hir (show i<(mp fenceL i s.ls).length by omega);have hlo:=hwl.lo;have hhi:=hwl.hi;have hat:=mp_at fenceL hi;have hla:=hR1.at_ _ hir (show i<(mp fenceL i s.ls).length by omega)
    simp only [hat] at hmk hrl hlo hhi hla
    rw [←hmk] at hlo hhi
    rw [←hrl] at hhi
    refine Zbe ?_;refine Zs ?_;refine tv (o_fieldAddr (o:=1) underlying195 rfl rfl sz193 rfl) ?_;refine tv (o_load p193 rfl (by repeat (first|exact rdevC_r|apply has_left)) rfl) ?_;refine Zil ?_;refine tv (o_ldP p3 rfl hll1 g2) ?_;refine Zj9 ?_;refine tc_cond rfl (λ h=> ?_) (λ h=> ?_)
    . have h0:0<=rls1[i].mark:=(by simpa using h);refine tc_seq ?_;obtain ⟨R,hf1,hf2⟩:=rdevC_focus (r:=r) (lv:=(.slice (some ⟨bl,ol,none⟩) s.ls.length cl_)) (av:=av) (kvs:=kvs) (s:={ s with ls:=mp fenceL i s.ls }) (n:=s.ls.length) hir hgl;refine tc_eq (hf1 F) ?_;have hv0:rls1[i].v= .slice (some ⟨ba,oa,none⟩) rls1[i].rows.length ca:=(by rw [rcl_at0 hir] at g1;exact Option.some.inj g1);rw [hv0]
      refine tc_regh (S:=F*R*pt r (cl (rdcs (.slice (some ⟨bl,ol,none⟩) s.ls.length cl_) { s with ls:=mp fenceL i s.ls } av) 195)*Bs rowR rls1[i].rows) mo drqz ?_
      show TH _ _ _ _ _ 25 (Array.replicate 25 false) _ _
      refine Zq ?_;refine Zcy ?_;refine Zc1 ?_;refine tm 6 rfl kqz rfl (o_nilCheck rfl) ?_;refine Zej ?_;refine tm 9 rfl kqz rfl (o_move wqz) ?_;refine Zew ?_;refine tm 13 rfl kqz rfl (o_move wqz) ?_;refine tm 14 rfl kqz rfl (o_nilCheck rfl) ?_;refine tm 15 rfl kqz rfl (o_fieldAddr (o:=1) underlying195 rfl rfl sz193 rfl) ?_;refine tm 16 rfl kqz rfl (by first|exact o_load p193 rfl hsqz rfl|exact o_loadC p193 rfl (by assumption)) ?_;refine tm 17 rfl kqz rfl (o_move wqz) ?_;refine tm 18 rfl kqz rfl (o_ixP underlying193 sz197 rfl rfl sq1z sq0z) ?_;refine tm 19 rfl kqz rfl (o_faP (m:=0) (o:=1) underlying197 rfl rfl sz3 rfl sq0z) ?_;refine th_two (i:=12) (j:=20) kqz ?_ ?_
      . skip
        refine oh_v rfl rfl rfl (o_ldP p41 rfl sq2z g1) ?_;refine th_one (i:=20) kqz ?_;refine oh_v rfl rfl rfl (o_ldP p3 rfl sq2z g2) ?_;refine Zig ?_;refine Zkt ?_;refine oh_u rfl rfl rfl (o_stP (ys:=(rls1.set i ⟨.slice (cutAddr (some ⟨ba,oa,none⟩) ca rls1[i].mark.toNat 1) (rls1[i].rows.length-rls1[i].mark.toNat) (ca-rls1[i].mark.toNat),rls1[i].rows.drop rls1[i].mark.toNat,rls1[i].mark⟩).flatMap rcl) sz41 rfl rfl rfl ctqz oqz (fm_set (f:=rcl) (k:=2) (j:=0) (y:=⟨.slice (cutAddr (some ⟨ba,oa,none⟩) ca rls1[i].mark.toNat 1) (rls1[i].rows.length-rls1[i].mark.toNat) (ca-rls1[i].mark.toNat),rls1[i].rows.drop rls1[i].mark.toNat,rls1[i].mark⟩) (rcl_len _) hir (by decide) rfl rfl)) drqz ?_;refine Zba ?_;have hir2:i<(rls1.set i ⟨.slice (cutAddr (some ⟨ba,oa,none⟩) ca rls1[i].mark.toNat 1) (rls1[i].rows.length-rls1[i].mark.toNat) (ca-rls1[i].mark.toNat),rls1[i].rows.drop rls1[i].mark.toNat,rls1[i].mark⟩).length:=(by rw [List.length_set];exact hir);refine Zfo ?_;refine Ziq ?_;refine Zil ?_;refine tl_u rfl (o_stP (ys:=(rls1.set i ⟨.slice (cutAddr (some ⟨ba,oa,none⟩) ca rls1[i].mark.toNat 1) (rls1[i].rows.length-rls1[i].mark.toNat) (ca-rls1[i].mark.toNat),rls1[i].rows.drop rls1[i].mark.toNat,-1⟩).flatMap rcl) sz3 rfl rfl rfl ctqz oqz ((fm_set (f:=rcl) (k:=2) (j:=1) (y:=⟨.slice (cutAddr (some ⟨ba,oa,none⟩) ca rls1[i].mark.toNat 1) (rls1[i].rows.length-rls1[i].mark.toNat) (ca-rls1[i].mark.toNat),rls1[i].rows.drop rls1[i].mark.toNat,-1⟩) (rcl_len _) hir2 (by decide) rfl (by rw [List.getElem_set_self];rfl)).trans (by rw [List.set_set]))) ?_
        have hnext:(rls1.set i ⟨.slice (cutAddr (some ⟨ba,oa,none⟩) ca rls1[i].mark.toNat 1) (rls1[i].rows.length-rls1[i].mark.toNat) (ca-rls1[i].mark.toNat),rls1[i].rows.drop rls1[i].mark.toNat,-1⟩).map RL.l=mp fenceL (i+1) s.ls:=by
          rw [List.map_set,hp1,←mp_set fenceL hi]
          congr 1
          unfold fenceL
          rw [if_pos (by rw [←hmk];exact h0),←hmk,←hla]
          simp [RL.l,List.map_drop]
        refine tl_pre (A':=F*RDevC r (.slice (some ⟨bl,ol,none⟩) s.ls.length cl_) (rls1.set i ⟨.slice (cutAddr (some ⟨ba,oa,none⟩) ca rls1[i].mark.toNat 1) (rls1[i].rows.length-rls1[i].mark.toNat) (ca-rls1[i].mark.toNat),rls1[i].rows.drop rls1[i].mark.toNat,-1⟩) av kvs { s with ls:=mp fenceL (i+1) s.ls }) (λ _ _ h=> ?_) ?_
        . rw [←hf2 F ⟨.slice (cutAddr (some ⟨ba,oa,none⟩) ca rls1[i].mark.toNat 1) (rls1[i].rows.length-rls1[i].mark.toNat) (ca-rls1[i].mark.toNat),rls1[i].rows.drop rls1[i].mark.toNat,-1⟩ { s with ls:=mp fenceL (i+1) s.ls } (mp_length _ _ _) rfl rfl rfl rfl]
          have h1:=sl_cut (l:=rls1[i].mark.toNat) (h.perm (star_swap _ _ _)) oqz;rw [bs_split _ rls1[i].mark.toNat] at h1
          simp only [List.length_drop,List.map_drop,Nat.mul_one] at h1 ⊢
          exact (h1.perm (show _=_*Bs rowR (rls1[i].rows.take rls1[i].mark.toNat) by ac_rfl)).left
        refine Zjx ?_;exact ⟨_,by omega,i+1,_,by omega,hnext,rfl,rfl,rfl,rfl⟩
      . skip
        refine oh_v rfl rfl rfl (o_ldP p3 rfl sq2z g2) ?_;refine th_one (i:=12) kqz ?_;refine oh_v rfl rfl rfl (o_ldP p41 rfl sq2z g1) ?_;refine Zig ?_;refine Zkt ?_;refine oh_u rfl rfl rfl (o_stP (ys:=(rls1.set i ⟨.slice (cutAddr (some ⟨ba,oa,none⟩) ca rls1[i].mark.toNat 1) (rls1[i].rows.length-rls1[i].mark.toNat) (ca-rls1[i].mark.toNat),rls1[i].rows.drop rls1[i].mark.toNat,rls1[i].mark⟩).flatMap rcl) sz41 rfl rfl rfl ctqz oqz (fm_set (f:=rcl) (k:=2) (j:=0) (y:=⟨.slice (cutAddr (some ⟨ba,oa,none⟩) ca rls1[i].mark.toNat 1) (rls1[i].rows.length-rls1[i].mark.toNat) (ca-rls1[i].mark.toNat),rls1[i].rows.drop rls1[i].mark.toNat,rls1[i].mark⟩) (rcl_len _) hir (by decide) rfl rfl)) drqz ?_;refine Zba ?_;have hir2:i<(rls1.set i ⟨.slice (cutAddr (some ⟨ba,oa,none⟩) ca rls1[i].mark.toNat 1) (rls1[i].rows.length-rls1[i].mark.toNat) (ca-rls1[i].mark.toNat),rls1[i].rows.drop rls1[i].mark.toNat,rls1[i].mark⟩).length:=(by rw [List.length_set];exact hir);refine Zfo ?_;refine Ziq ?_;refine Zil ?_;refine tl_u rfl (o_stP (ys:=(rls1.set i ⟨.slice (cutAddr (some ⟨ba,oa,none⟩) ca rls1[i].mark.toNat 1) (rls1[i].rows.length-rls1[i].mark.toNat) (ca-rls1[i].mark.toNat),rls1[i].rows.drop rls1[i].mark.toNat,-1⟩).flatMap rcl) sz3 rfl rfl rfl ctqz oqz ((fm_set (f:=rcl) (k:=2) (j:=1) (y:=⟨.slice (cutAddr (some ⟨ba,oa,none⟩) ca rls1[i].mark.toNat 1) (rls1[i].rows.length-rls1[i].mark.toNat) (ca-rls1[i].mark.toNat),rls1[i].rows.drop rls1[i].mark.toNat,-1⟩) (rcl_len _) hir2 (by decide) rfl (by rw [List.getElem_set_self];rfl)).trans (by rw [List.set_set]))) ?_
        have hnext:(rls1.set i ⟨.slice (cutAddr (some ⟨ba,oa,none⟩) ca rls1[i].mark.toNat 1) (rls1[i].rows.length-rls1[i].mark.toNat) (ca-rls1[i].mark.toNat),rls1[i].rows.drop rls1[i].mark.toNat,-1⟩).map RL.l=mp fenceL (i+1) s.ls:=by
          rw [List.map_set,hp1,←mp_set fenceL hi]
          congr 1
          unfold fenceL
          rw [if_pos (by rw [←hmk];exact h0),←hmk,←hla]
          simp [RL.l,List.map_drop]
        refine tl_pre (A':=F*RDevC r (.slice (some ⟨bl,ol,none⟩) s.ls.length cl_) (rls1.set i ⟨.slice (cutAddr (some ⟨ba,oa,none⟩) ca rls1[i].mark.toNat 1) (rls1[i].rows.length-rls1[i].mark.toNat) (ca-rls1[i].mark.toNat),rls1[i].rows.drop rls1[i].mark.toNat,-1⟩) av kvs { s with ls:=mp fenceL (i+1) s.ls }) (λ _ _ h=> ?_) ?_
        . rw [←hf2 F ⟨.slice (cutAddr (some ⟨ba,oa,none⟩) ca rls1[i].mark.toNat 1) (rls1[i].rows.length-rls1[i].mark.toNat) (ca-rls1[i].mark.toNat),rls1[i].rows.drop rls1[i].mark.toNat,-1⟩ { s with ls:=mp fenceL (i+1) s.ls } (mp_length _ _ _) rfl rfl rfl rfl]
          have h1:=sl_cut (l:=rls1[i].mark.toNat) (h.perm (star_swap _ _ _)) oqz;rw [bs_split _ rls1[i].mark.toNat] at h1
          simp only [List.length_drop,List.map_drop,Nat.mul_one] at h1 ⊢
          exact (h1.perm (show _=_*Bs rowR (rls1[i].rows.take rls1[i].mark.toNat) by ac_rfl)).left
        refine Zjx ?_;exact ⟨_,by omega,i+1,_,by omega,hnext,rfl,rfl,rfl,rfl⟩
    have h0:¬0<=rls1[i].mark:=(by simp at h;omega);have hsame:=mp_same fenceL hi (by unfold fenceL;rw [if_neg (by rw [←hmk];exact h0)]);have hnext:rls1.map RL.l=mp fenceL (i+1) s.ls:=(by rw [hsame];exact hp1);refine tc_eq (show _=F*RDevC r (.slice (some ⟨bl,ol,none⟩) s.ls.length cl_) rls1 av kvs { s with ls:=mp fenceL (i+1) s.ls } by rw [hsame]) ?_;refine Zfl ?_;exact ⟨_,by omega,i+1,_,by omega,hnext,rfl,rfl,rfl,rfl⟩
  obtain rfl:i=s.ls.length:=by simp at h;omega
  have hfe:fenceS s={ s with ls:=mp fenceL s.ls.length s.ls }:=(by unfold fenceS;rw [mp_map]);refine tc_pre (rdev_back (mpF_wf hw) hp1 hkv) ?_;rw [←hfe]
  refine Zdx ?_;refine tl_c rfl (o_call bd225 rfl (rdone_f F)) ?_;refine Zct ?_;exact ⟨.int .i64 (doneE (fenceS s)),F*RDev r (doneS (fenceS s)),res1 rfl rfl,Dr.sat drqz,rfl,rfl⟩
theorem rWake_f (F:SP){r:Nat}{s:DevS}:
    Fn Tryz.prog 122 #[pz r] (F*RDev r s) (λ v B=>v= .int .i64 (if s.off then 0 else 3)/\ B=F*RDev r { s with off:=false }):=by
  refine fn_enterW func122 rfl ntmps122 (by simp) ?_;refine tc_rdev λ hw lv rls av kvs hmap hkv=> ?_
  have hpos:=hw.pos;have htop:=hw.top;refine tc_have (λ _ _ h=>rdevR_of hw hmap h) λ hR=> ?_
  obtain ⟨bl,ol,cl_,rfl,hlc,hll⟩:=hR.lv;have hlen:=hR.len
  
  refine Zli ?_;refine tv (o_not rfl) ?_;refine nq ?_;refine tc_cond rfl (λ h=> ?_) (λ h=> ?_)
  . have hoff:s.off=false:=(by simpa using h);have e:s={ s with off:=false }:=(by rw [←hoff]);refine Zb6 ?_;exact ⟨.int .i64 3,F*RDev r { s with off:=false },res1 rfl rfl,by rw [←e];exact rdev_back hw hmap hkv,by rw [hoff];rfl,rfl⟩
  have hoff:s.off=true:=(by simpa using h);refine Zfx ?_;refine tv (o_fieldAddr (o:=5) underlying195 rfl rfl sz4 rfl) ?_;refine tl_u rfl (o_store sz4 rfl rfl rfl (by show 5<6;decide) rfl (rdevC_upd s.ops s.cnt false)) ?_;refine nq ?_;refine Zd0 ?_;exact ⟨.int .i64 0,F*RDev r { s with off:=false },res1 rfl rfl,rdev_back ⟨hw.pos,hw.top,hw.line,hw.arms,hw.after,hw.keeps⟩ hmap hkv,by rw [hoff];rfl,rfl⟩
theorem rCrash_f (F:SP){r c m:Nat}{s:DevS}{a:Option Addr}{keep:List Int}(hr:Rs F a (ints keep))(hk:∀k∈keep,k<=9223372036854775807)(hm:keep.length=m)(hkl:m<=17592186044416):
    Fn Tryz.prog 121 #[pz r,.slice a m c] (F*RDev r s) (λ v B=>v= .int .i64 (crS keep s).1/\ B=F*RDev r (crS keep s).2):=by
  refine fn_enterW func121 rfl ntmps121 (by simp) ?_;refine tc_rdev λ hw lv rls av kvs hmap hkv=> ?_
  have hpos:=hw.pos;have htop:=hw.top;refine tc_have (λ _ _ h=>rdevR_of hw hmap h) λ hR=> ?_
  obtain ⟨bl,ol,cl_,rfl,hlc,hll⟩:=hR.lv;have hlen:=hR.len
  
  refine Zli ?_;refine nq ?_;refine tc_cond rfl (sbq ?_) (λ h=> ?_)
  . intro h;refine Zb6 ?_;have e:crS keep s=(5,s):=(by unfold crS;rw [if_pos h]);rw [e]
    exact ⟨.int .i64 5,F*RDev r s,res1 rfl rfl,rdev_back hw hmap hkv,rfl,rfl⟩
  have hoff:s.off=false:=(by simpa using h);refine Zdf ?_;refine tl_c rfl (o_call bd177 rfl (rbelow_c (xs:=keep))) ?_;refine Zet ?_;refine tc_cond rfl (sbq ?_) (λ h=> ?_)
  . intro h;refine Zb6 ?_;have e:crS keep s=(2,s):=(by unfold crS;rw [if_neg (by rw [hoff];decide),if_pos h]);rw [e]
    exact ⟨.int .i64 2,F*RDev r s,res1 rfl rfl,rdev_back hw hmap hkv,rfl,rfl⟩
  have hlow:lowB keep=false:=(by simpa using h);have e:crS keep s=(0,goesS keep s):=(by unfold crS;rw [if_neg (by rw [hoff];decide),if_neg (by rw [hlow];decide)]);rw [e]
  refine tc_pre (rdev_back hw hmap hkv) ?_;subst hm;refine Zgr ?_;refine tl_c rfl (o_call bd178 rfl (rgoes_f F hr (λ k hm=>⟨low_nn hlow k hm,hk k hm⟩) hkl)) ?_;refine Zet ?_;refine Zd0 ?_;exact ⟨.int .i64 0,F*RDev r (goesS keep s),res1 rfl rfl,Dr.sat drqz,rfl,rfl⟩
theorem Zgv {p r:Prop}(k:r)(h:Kq r->p:=by intro k;refine ⟨by repeat (first|with_reducible exact dr_refl|apply dr_keep|apply dr_drop), ?_⟩;refine tm 16 rfl kqz rfl (o_bS (l:=[_,_]) (pv_cons wqz (pv_cons wqz pv_nil)) underlying82 z82 (pl82 underlying82) rfl) ?_;exact k.o):p:=h ⟨k⟩
theorem Zjq {p r:Prop}(k:r)(h:Kq r->p:=by intro k;refine th_one (i:=17) kqz ?_;refine oh_x rfl rfl rfl (o_buildSliceK underlying95 sz82 z82 rfl (by first|rfl|simp) (by decide)) ?_;exact k.o):p:=h ⟨k⟩
theorem Zgh {p r:Prop}(k:r)(h:Kq r->p:=by intro k;refine ⟨by repeat (first|with_reducible exact dr_refl|apply dr_keep|apply dr_drop), ?_⟩;refine th_one (i:=18) kqz ?_;exact k.o):p:=h ⟨k⟩
theorem Zf0 {p r:Prop}(k:r)(h:Kq r->p:=by intro k;refine ⟨by repeat (first|with_reducible exact dr_refl|apply dr_keep|apply dr_drop), ?_⟩;refine tm 19 rfl kqz rfl (o_nilCheck rfl) ?_;exact k.o):p:=h ⟨k⟩
theorem Zg1 {p r:Prop}(k:r)(h:Kq r->p:=by intro k;refine tm 20 rfl kqz rfl (o_fieldAddr (o:=3) underlying195 rfl rfl sz95 rfl) ?_;refine th_one (i:=21) kqz ?_;exact k.o):p:=h ⟨k⟩
theorem rArm_f (F:SP){a:Option Addr}{c m r:Nat}{s:DevS}{kvs:List Value}{ars:List (Int×List Int)}(hr:RdA F a kvs ars)(hm:ars.length=m)(hl:m<=17592186044416)(hk:∀x∈ars,(-9223372036854775808<=x.1/\ x.1<=9223372036854775807)/\ x.2.length<=17592186044416/\∀k∈x.2,k<=9223372036854775807):
    Fn Tryz.prog 120 #[pz r,.slice a m c] (F*RDev r s) (λ v B=>v= .int .i64 (armS ars s).1/\ B=F*RDev r (armS ars s).2):=by
  refine fn_enterW func120 rfl ntmps120 (by simp) ?_;refine tc_rdev λ hw lv rls av kvs0 hmap hkv0=> ?_
  have hpos:=hw.pos;have htop:=hw.top;refine tc_have (λ _ _ h=>rdevR_of hw hmap h) λ hR=> ?_
  obtain ⟨bl,ol,cl_,rfl,hlc,hll⟩:=hR.lv;have hlen:=hR.len;have ha64:=hw.arms;have hrr:Rs F a (acs kvs ars):=hr.rd;have hrl:=acs_length hr.len;refine Zli ?_;refine nq ?_;refine tc_cond rfl (sbq ?_) (λ h=> ?_)
  . intro h;refine Zb6 ?_;have e:armS ars s=(5,s):=(by unfold armS;rw [if_pos h]);rw [e]
    exact ⟨.int .i64 5,F*RDev r s,res1 rfl rfl,rdev_back hw hmap hkv0,rfl,rfl⟩
  have hoff:s.off=false:=(by simpa using h);refine Zjy ?_;refine tc_loop (λ kk ρ BB=>∃ (i:Nat),(i<=m)/\ ((ars.take i).any badA=false)/\ kk=m-i/\ ρ 5=(vn i)/\ ρ 0=(pz r)/\ ρ 1= .slice a m c/\ BB=F*RDevC r (.slice (some ⟨bl,ol,none⟩) s.ls.length cl_) rls av kvs0 s) (m:=m-(0)) ?_ ?_
  . exact ⟨0,by omega,rfl,rfl,rfl,rfl,rfl,rfl⟩
  intro k ρ B hI;obtain ⟨i,hp0,hp1,hkk1,hE5,hE0,hE1,rfl⟩:=hI;refine te 5 hE5 ?_;refine te 0 hE0 ?_;refine te 1 hE1 ?_;refine Zed ?_;refine tv (o_len underlying95 rfl) ?_;refine Zn ?_;refine tc_cond rfl (λ h=> ?_) (λ h=> ?_)
  . have hi:i<ars.length:=(by simp at h;omega);obtain ⟨kb,kc,hkv,hkc,hkr⟩:=hr.keep i hi;have g0:=acs_at0 hr.len hi;have g1:=acs_at1 hr.len hi;have hkv2:kvs[i]'(by rw [hr.len];exact hi)= .slice kb ars[i].2.length kc:=(by rw [List.getElem?_eq_getElem (by rw [hr.len];exact hi)] at hkv;exact Option.some.inj hkv);rw [hkv2] at g1
    have hke:=hk _ (List.getElem_mem hi);refine Zlg ?_;refine tv (o_ixP underlying95 sz82 rfl rfl sq1z sq0z) ?_;refine tv (o_faP (m:=0) (o:=0) underlying82 rfl rfl sz3 rfl sq0z) ?_;refine tv (o_ldP p3 rfl sq2z (by first|assumption|exact bys_at oqz|exact ints_at oqz|exact wds_at oqz|exact bos_at oqz|rfl)) ?_;refine Zdq ?_;refine tl_bool (d:=23) rfl (sbq ?_) (sbq ?_)
    . intro h;refine Zdl ?_;refine Zfw ?_;refine Zjt ?_;have hs2:armS ars s=(2,s):=(by unfold armS;rw [if_neg (by rw [hoff];decide),if_pos (any_at hi (by unfold badA;simp at h ⊢;first|exact h|exact .inl h|exact .inr h|omega))]);rw [hs2]
      exact ⟨.int .i64 2,F*RDev r s,res1 rfl rfl,rdev_back hw hmap hkv0,rfl,rfl⟩
    intro h;refine Z2 ?_;refine tv (o_ixP underlying95 sz82 rfl rfl sq1z sq0z) ?_;refine tv (o_faP (m:=0) (o:=1) underlying82 rfl rfl sz26 rfl sq0z) ?_;refine tv (o_ldP p26 rfl sq2z (by first|assumption|exact bys_at oqz|exact ints_at oqz|exact wds_at oqz|exact bos_at oqz|rfl)) ?_;refine tl_c rfl (o_call bd177 rfl (rbelow_c (xs:=ars[i].2))) ?_;rintro _ _ ⟨rfl,rfl⟩;refine Zft ?_;refine tc_cond rfl (sbq ?_) (λ h=> ?_)
    . intro h;refine Zjt ?_;have hs2:armS ars s=(2,s):=(by unfold armS;rw [if_neg (by rw [hoff];decide),if_pos (any_at hi (by unfold badA;simp at h ⊢;first|exact h|exact .inl h|exact .inr h|omega))]);rw [hs2]
      exact ⟨.int .i64 2,F*RDev r s,res1 rfl rfl,rdev_back hw hmap hkv0,rfl,rfl⟩
    have hbad:badA ars[i]=false:=(by unfold badA;rw [Bool.or_eq_false_iff];exact ⟨by simp;omega,h⟩);refine Zfl ?_;exact ⟨_,by omega,i+1,by omega,any_take hp1 hi hbad,rfl,rfl,rfl,rfl,rfl⟩
  have hmi:m=i:=(by simp at h;omega);subst hmi;have hnb:ars.any badA=false:=(by rwa [List.take_of_length_le oqz] at hp1);refine tc_have (λ _ _ h=>rdevC_arms h) λ ⟨aa,ca,hav,_⟩=> ?_
  subst hav;refine Zf ?_;refine Ze ?_;refine tv (o_len underlying95 rfl) ?_;refine Zw ?_;refine tv (o_fieldAddr (o:=3) underlying195 rfl rfl sz95 rfl) ?_;refine tv (o_load p95 rfl (by repeat (first|exact rdevC_r|apply has_left)) rfl) ?_;refine tv (o_len underlying95 rfl) ?_;refine tv adqz ?_;refine Ze4 ?_;refine tc_cond rfl (sbq ?_) (λ h=> ?_)
  . intro h;refine Zb6 ?_;have hs2:armS ars s=(4,s):=(by unfold armS;rw [if_neg (by rw [hoff];decide),if_neg (by rw [hnb];decide),if_pos oqz]);rw [hs2]
    exact ⟨.int .i64 4,F*RDev r s,res1 rfl rfl,rdev_back hw hmap hkv0,rfl,rfl⟩
  have hfit:ars.length+s.arms.length<=64:=(by simp at h;omega);refine tc_pre (rdev_back hw hmap hkv0) ?_;refine Zjy ?_;refine tc_loop (λ kk ρ BB=>∃ (i:Nat),(i<=m)/\ kk=m-i/\ ρ 6=(vn i)/\ ρ 0=(pz r)/\ ρ 1= .slice a m c/\ BB=F*RDev r { s with arms:=s.arms++ars.take i }) (m:=m-(0)) ?_ ?_
  . exact ⟨0,by omega,rfl,rfl,rfl,rfl,by rw [List.take_zero,List.append_nil]⟩
  intro k ρ B hI;obtain ⟨i,hp0,hkk2,hE6,hE0,hE1,rfl⟩:=hI;refine te 6 hE6 ?_;refine te 0 hE0 ?_;refine te 1 hE1 ?_;refine Zed ?_;refine tv (o_len underlying95 rfl) ?_;refine Zn ?_;refine tc_cond rfl (λ h=> ?_) (sbq ?_)
  . have hi:i<ars.length:=(by simp at h;omega);obtain ⟨kb,kc,hkv,hkc,hkr⟩:=hr.keep i hi;have g0:=acs_at0 hr.len hi;have g1:=acs_at1 hr.len hi;have hkv2:kvs[i]'(by rw [hr.len];exact hi)= .slice kb ars[i].2.length kc:=(by rw [List.getElem?_eq_getElem (by rw [hr.len];exact hi)] at hkv;exact Option.some.inj hkv);rw [hkv2] at g1
    have hke:=hk _ (List.getElem_mem hi);refine tc_rdev λ hw2 lv2 rls2 av2 kvs2 hmap2 hkv3=> ?_
    refine tc_have (λ _ _ h=>rdevC_arms h) λ ⟨aa2,ca2,hav,_⟩=> ?_
    subst hav;refine tc_eq (show _=F*KeepsR kvs2 (s.arms++ars.take i)*Bs rlR rls2*Sl 2 lv2 s.ls.length (rls2.flatMap rcl)*pt r (cl (rdcs lv2 { s with arms:=s.arms++ars.take i } (.slice aa2 (s.arms++ars.take i).length ca2)) 195)*Sl 2 (.slice aa2 (s.arms++ars.take i).length ca2) (s.arms++ars.take i).length (acs kvs2 (s.arms++ars.take i)) by unfold RDevC ArmsR;ac_rfl) ?_;refine Zbe ?_;refine tc_regh (S:=F*KeepsR kvs2 (s.arms++ars.take i)*Bs rlR rls2) mo drqz ?_
    show TH _ _ _ _ _ 22 (Array.replicate 22 false) _ _
    refine Zcd ?_;refine tm 2 rfl kqz rfl (o_nilCheck rfl) ?_;refine tm 3 rfl kqz rfl (o_fieldAddr (o:=3) underlying195 rfl rfl sz95 rfl) ?_;refine tm 5 rfl kqz rfl (o_move wqz) ?_;refine tm 6 rfl kqz rfl (o_move wqz) ?_;refine tm 7 rfl kqz rfl (o_ixP underlying95 sz82 rfl rfl sq1z sq0z) ?_;refine tm 8 rfl kqz rfl (o_faP (m:=0) (o:=0) underlying82 rfl rfl sz3 rfl sq0z) ?_;refine tm 9 rfl kqz rfl (o_ldP p3 rfl sq2z (by first|assumption|exact bys_at oqz|exact ints_at oqz|exact wds_at oqz|exact bos_at oqz|rfl)) ?_;refine tm 10 rfl kqz rfl (o_move wqz) ?_;refine tm 11 rfl kqz rfl (o_move wqz) ?_;refine tm 12 rfl kqz rfl (o_ixP underlying95 sz82 rfl rfl sq1z sq0z) ?_;refine tm 13 rfl kqz rfl (o_faP (m:=0) (o:=1) underlying82 rfl rfl sz26 rfl sq0z) ?_;refine tm 14 rfl kqz rfl (o_ldP p26 rfl sq2z (by first|assumption|exact bys_at oqz|exact ints_at oqz|exact wds_at oqz|exact bos_at oqz|rfl)) ?_;refine th_two (i:=4) (j:=15) kqz ?_ ?_
    . skip
      refine oh_v rfl rfl rfl (o_load p95 rfl hsqz rfl) ?_;refine th_one (i:=15) kqz ?_;refine oh_c rfl rfl rfl (o_call bd80 rfl (CopyInts_c (xs:=ars[i].2))) ?_;rintro _ _ ⟨a61,c61,rfl,hc61,rfl⟩;refine Zgv ?_;refine Zjq ?_;rintro _ _ ⟨b63,rfl,rfl⟩;refine Zgh ?_;refine oh_x rfl rfl rfl (o_apB underlying95 underlying95 sz82 by82 z82 rfl (by decide) (by decide) rfl rfl rfl ctqz rfl (by first|exact bys_all _|exact ints_all _|exact wds_all _|exact bos_all _|rfl) sq1z (by first|exact bys_sn _ _|exact ints_sn _ _|exact wds_sn _ _|exact bos_sn _ _|exact (bys_append _ _).symm|rfl)) ?_;rintro _ _ ⟨a64,c64,rfl,hc64,rfl⟩;refine Zf0 ?_;refine Zg1 ?_;refine oh_u rfl rfl rfl (o_stU (l':=rdcs lv2 { s with arms:=s.arms++ars.take i } (.slice a64 ((s.arms++ars.take i).length+1) c64)) rfl upqz sz95 rfl rfl (by show 3<6;decide) rfl) drqz ?_;refine Zcg ?_
      have hw3:WfD { { s with arms:=s.arms++ars.take i } with arms:={ s with arms:=s.arms++ars.take i }.arms++[ars[i]] }:=by
        show WfD { s with arms:=(s.arms++ars.take i)++[ars[i]] }
        rw [List.append_assoc,←List.take_succ_eq_append_getElem hi]
        exact arm_wf hw (by rw [List.length_take];omega) (by rw [List.any_eq_false] at hnb ⊢;exact λ x hx=>hnb x (List.mem_of_mem_take hx)) (λ x hx=>by have:=hk x (List.mem_of_mem_take hx);exact ⟨this.1.2,this.2⟩)
      refine tc_pre (A':=F*RDev r { { s with arms:=s.arms++ars.take i } with arms:={ s with arms:=s.arms++ars.take i }.arms++[ars[i]] }) (λ _ _ h=>rarm_back (F:=F) (r:=r) (J:=emp) (v:= .slice a61 ars[i].2.length c61) (av:= .slice a64 ((s.arms++ars.take i).length+1) c64) hw3 hmap2 hkv3 (h.perm (by rw [star_emp];first|rfl|ac_rfl))) ?_;refine Zbv ?_;exact ⟨_,by omega,i+1,by omega,rfl,rfl,rfl,rfl,by rw [List.take_succ_eq_append_getElem hi,←List.append_assoc]⟩
    . skip
      refine oh_c rfl rfl rfl (o_call bd80 rfl (CopyInts_c (xs:=ars[i].2))) ?_;rintro _ _ ⟨a61,c61,rfl,hc61,rfl⟩;refine Zgv ?_;refine th_two (i:=4) (j:=17) kqz ?_ ?_
      . skip
        refine oh_v rfl rfl rfl (o_load p95 rfl hsqz rfl) ?_;refine Zjq ?_;rintro _ _ ⟨b63,rfl,rfl⟩;refine Zgh ?_;refine oh_x rfl rfl rfl (o_apB underlying95 underlying95 sz82 by82 z82 rfl (by decide) (by decide) rfl rfl rfl ctqz rfl (by first|exact bys_all _|exact ints_all _|exact wds_all _|exact bos_all _|rfl) sq1z (by first|exact bys_sn _ _|exact ints_sn _ _|exact wds_sn _ _|exact bos_sn _ _|exact (bys_append _ _).symm|rfl)) ?_;rintro _ _ ⟨a64,c64,rfl,hc64,rfl⟩;refine Zf0 ?_;refine Zg1 ?_;refine oh_u rfl rfl rfl (o_stU (l':=rdcs lv2 { s with arms:=s.arms++ars.take i } (.slice a64 ((s.arms++ars.take i).length+1) c64)) rfl upqz sz95 rfl rfl (by show 3<6;decide) rfl) drqz ?_;refine Zcg ?_
        have hw3:WfD { { s with arms:=s.arms++ars.take i } with arms:={ s with arms:=s.arms++ars.take i }.arms++[ars[i]] }:=by
          show WfD { s with arms:=(s.arms++ars.take i)++[ars[i]] }
          rw [List.append_assoc,←List.take_succ_eq_append_getElem hi]
          exact arm_wf hw (by rw [List.length_take];omega) (by rw [List.any_eq_false] at hnb ⊢;exact λ x hx=>hnb x (List.mem_of_mem_take hx)) (λ x hx=>by have:=hk x (List.mem_of_mem_take hx);exact ⟨this.1.2,this.2⟩)
        refine tc_pre (A':=F*RDev r { { s with arms:=s.arms++ars.take i } with arms:={ s with arms:=s.arms++ars.take i }.arms++[ars[i]] }) (λ _ _ h=>rarm_back (F:=F) (r:=r) (J:=emp) (v:= .slice a61 ars[i].2.length c61) (av:= .slice a64 ((s.arms++ars.take i).length+1) c64) hw3 hmap2 hkv3 (h.perm (by rw [star_emp];first|rfl|ac_rfl))) ?_;refine Zbv ?_;exact ⟨_,by omega,i+1,by omega,rfl,rfl,rfl,rfl,by rw [List.take_succ_eq_append_getElem hi,←List.append_assoc]⟩
      . skip
        refine oh_x rfl rfl rfl (o_buildSliceK underlying95 sz82 z82 rfl (by first|rfl|simp) (by decide)) ?_;rintro _ _ ⟨b63,rfl,rfl⟩;refine Zgi ?_;refine oh_v rfl rfl rfl (o_load p95 rfl hsqz rfl) ?_;refine th_one (i:=18) kqz ?_;refine oh_x rfl rfl rfl (o_apB underlying95 underlying95 sz82 by82 z82 rfl (by decide) (by decide) rfl rfl rfl ctqz rfl (by first|exact bys_all _|exact ints_all _|exact wds_all _|exact bos_all _|rfl) sq1z (by first|exact bys_sn _ _|exact ints_sn _ _|exact wds_sn _ _|exact bos_sn _ _|exact (bys_append _ _).symm|rfl)) ?_;rintro _ _ ⟨a64,c64,rfl,hc64,rfl⟩;refine Zf0 ?_;refine Zg1 ?_;refine oh_u rfl rfl rfl (o_stU (l':=rdcs lv2 { s with arms:=s.arms++ars.take i } (.slice a64 ((s.arms++ars.take i).length+1) c64)) rfl upqz sz95 rfl rfl (by show 3<6;decide) rfl) drqz ?_;refine Zcg ?_
        have hw3:WfD { { s with arms:=s.arms++ars.take i } with arms:={ s with arms:=s.arms++ars.take i }.arms++[ars[i]] }:=by
          show WfD { s with arms:=(s.arms++ars.take i)++[ars[i]] }
          rw [List.append_assoc,←List.take_succ_eq_append_getElem hi]
          exact arm_wf hw (by rw [List.length_take];omega) (by rw [List.any_eq_false] at hnb ⊢;exact λ x hx=>hnb x (List.mem_of_mem_take hx)) (λ x hx=>by have:=hk x (List.mem_of_mem_take hx);exact ⟨this.1.2,this.2⟩)
        refine tc_pre (A':=F*RDev r { { s with arms:=s.arms++ars.take i } with arms:={ s with arms:=s.arms++ars.take i }.arms++[ars[i]] }) (λ _ _ h=>rarm_back (F:=F) (r:=r) (J:=emp) (v:= .slice a61 ars[i].2.length c61) (av:= .slice a64 ((s.arms++ars.take i).length+1) c64) hw3 hmap2 hkv3 (h.perm (by rw [star_emp];first|rfl|ac_rfl))) ?_;refine Zbv ?_;exact ⟨_,by omega,i+1,by omega,rfl,rfl,rfl,rfl,by rw [List.take_succ_eq_append_getElem hi,←List.append_assoc]⟩
  intro h;refine Zgf ?_;obtain rfl:m=i:=by omega
  have hs2:armS ars s=(0,{ s with arms:=s.arms++ars }):=(by unfold armS;rw [if_neg (by rw [hoff];decide),if_neg (by rw [hnb];decide),if_neg oqz]);rw [hs2,List.take_of_length_le (show ars.length<=m by omega)]
  exact ⟨.int .i64 0,F*RDev r { s with arms:=s.arms++ars },res1 rfl rfl,Dr.sat drqz,rfl,rfl⟩
end Go.Vl

namespace Go.Vl
open Go Go.Proofs Go.Proofs.Tryz
theorem img_getR {s:DevS}{q:Nat}(hw:WfD s)(hi:q/64<s.ls.length):(imgS s)[q]? =(lb (seenL s.ls[q/64]))[q%64]? :=by
  have hwl:=hw.line _ (List.getElem_mem hi);have h8:=seen8 hwl;have e:=img_at hw.line hi;have h1:(imgS s)[q]? =((imgS s).drop (q/64*64))[q%64]? :=(by rw [List.getElem?_drop];congr 1;omega);rw [h1];unfold imgS;rw [e,List.getElem?_append_left oqz]
theorem fromS_len (n:Nat)(xs:List Nat):(fromS n xs).ls.length=n:=by simp [fromS,newS]
theorem fromS_at {n:Nat}(xs:List Nat){i:Nat}(h:i<n):(fromS n xs).ls[i]'(by rw [fromS_len];exact h)=lineF xs i:=by simp [fromS]
theorem bys_rep (k:Nat):List.replicate k (.int .u8 0)=bys (List.replicate k 0):=by simp [bys,b8]
attribute [local irreducible] Sl pt ro
theorem Zii {p r:Prop}(k:r)(h:Kq r->p:=by intro k;refine Za ?_;refine tc_block ?_;exact k.o):p:=h ⟨k⟩
theorem CopyRows_c {A:SP}{a:Option Addr}{c m:Nat}{vs:List Value}{ls:List (List Nat)}(hr:Rs A a vs)(hv:vs.length=ls.length)(hrow:∀i (h:i<ls.length),∃b c,vs[i]? =some (.slice b ls[i].length c)/\ Rs A b (bys ls[i]))(hm:ls.length=m)(hl:m<=2199023255552)(hll:∀l∈ls,l.length<=140737488351232):
    Fn Tryz.prog 127 #[.slice a m c] A (λ v B=>∃a c vs,v= .slice a m c/\ m<=c/\ B=A*Parts vs ls*Sl 1 (.slice a m c) m vs):=by
  refine fn_enterW func127 rfl ntmps127 (by simp) ?_;refine Zj ?_;refine Zj ?_;refine Zdw ?_;refine tc_pre (A':=A*Parts [] []*Sl 1 (.slice none 0 0) 0 []) (λ _ _ h=>by rw [show Parts [] []=emp from rfl,star_emp];exact sl_nil h) ?_;refine tc_reg ?_;refine Zii ?_;refine tc_loop (λ kk ρ BB=>∃ (i:Nat) (a3:Option Addr) (c3:Nat) (vs2:List Value),(i<=m)/\ (vs2.length=i)/\ (i<=c3)/\ kk=m-i/\ ρ 3= .slice a3 i c3/\ ρ 4=(vn i)/\ ρ 0= .slice a m c/\ BB=A*Parts vs2 (ls.take i)*Sl 1 (.slice a3 i c3) i vs2) (m:=m-(0)) ?_ ?_
  . exact ⟨0,none,0,[],by omega,rfl,by omega,rfl,rfl,rfl,rfl,rfl⟩
  intro k ρ B hI;obtain ⟨i,a3,c3,vs2,hp0,hp1,hp2,hkk1,hE3,hE4,hE0,rfl⟩:=hI;refine te 3 hE3 ?_;refine te 4 hE4 ?_;refine te 0 hE0 ?_;refine Zed ?_;refine Zgm ?_;refine tc_cond rfl (λ h=> ?_) (λ h=> ?_)
  . have hi:i<ls.length:=(by simp at h;omega);obtain ⟨b,cb,g1,hrr⟩:=hrow i hi;have hln:=hll _ (List.getElem_mem hi);refine Zbe ?_;refine Zh2 ?_;refine tv (o_ixP1 underlying41 sz57 rfl rfl oqz (nn_rs hr.left.left (λ _=>by omega))) ?_;refine tv (o_ldP p57 rfl hr.left.left g1) ?_;refine tl_c rfl (o_call bd52 rfl (CopyBytes_c (xs:=ls[i]) (hr:=hrr.left.left))) ?_;rintro _ _ ⟨a16,c16,rfl,hc16,rfl⟩;refine tl_x rfl (o_buildSlice1 underlying41 sz57 z57 wqz rfl) ?_;rintro _ _ ⟨b17,rfl,rfl⟩;refine tl_x rfl (o_apB underlying41 underlying41 sz57 by57 z57 rfl (by decide) (by decide) rfl rfl rfl ctqz rfl (by first|exact bys_all _|exact ints_all _|exact wds_all _|exact bos_all _|rfl) sq1z (by first|exact bys_sn _ _|exact ints_sn _ _|exact wds_sn _ _|exact bos_sn _ _|exact (bys_append _ _).symm|rfl)) ?_;rintro _ _ ⟨a18,c18,rfl,hc18,rfl⟩;refine Zhr ?_;exact ⟨_,by omega,i+1,a18,c18,vs2++[.slice a16 ls[i].length c16],by omega,by simp [hp1],hc18,rfl,rfl,rfl,rfl,by rw [List.take_succ_eq_append_getElem hi,parts_snoc (by rw [List.length_take];omega)];ac_rfl⟩
  obtain rfl:i=m:=by simp at h;omega
  rw [List.take_of_length_le oqz]
  refine Zio ?_;exact ⟨.slice a3 i c3,_,res1 rfl rfl,Dr.sat drqz,a3,c3,vs2,rfl,hp2,rfl⟩
theorem rContents_f (A:SP){r:Nat}{lv av:Value}{rls:List RL}{s:DevS}(hR:RdevR A r lv rls av s){q:Nat}(hq:q<s.ls.length):
    Fn Tryz.prog 64 #[pz r,vn q] A (λ v B=>∃X,B=A*X/\∃a c vs,v= .slice a (ctS q s).length c/\ (ctS q s).length<=c/\ X=Parts vs (ctS q s)*Sl 1 (.slice a (ctS q s).length c) (ctS q s).length vs):=by
  refine fn_enterW func64 rfl ntmps64 (by simp) ?_;obtain ⟨bl,ol,cl_,rfl,hlc,hlr⟩:=hR.lv;have hlen:=hR.len;have htop:=hR.wf.top;have hir:q<rls.length:=(by omega);obtain ⟨ba,oa,ca,g1,hca,har⟩:=hR.allC hir;have hrl:=hR.rows hir hq;have hsm:=hR.small hir;have hct:=ctS_at hq;have hwl:=hR.wf.line _ (List.getElem_mem hq);have hcl:(ctS q s).length=rls[q].rows.length:=(by rw [hct,List.length_map,hrl]);rw [hcl]
  refine Zcl ?_;refine Zdq ?_;refine tl_bool (d:=7) rfl dbq (sbq ?_);intro h;refine tlm ?_;refine Zfb ?_;refine tv (o_ldP (a:=some ⟨r,0,none⟩) (i:=1) p193 rfl (by repeat (first|exact hR.d|apply Rs.left)) rfl) ?_;refine tv (o_len underlying193 rfl) ?_;refine tv (o_geq rfl rfl) ?_;refine Zd6 ?_;intro h;refine Zfx ?_;refine tv (o_fieldAddr (o:=1) underlying195 rfl rfl sz193 rfl) ?_;refine tv (o_ldP (a:=some ⟨r,0,none⟩) (i:=1) p193 rfl (by repeat (first|exact hR.d|apply Rs.left)) rfl) ?_;refine Zfy ?_;refine Zg3 ?_
  refine tl_c rfl (o_call bd127 rfl (CopyRows_c (vs:=rls[q].rows.map Prod.fst) (ls:=ctS q s) (hr:=har) (hv:=by rw [List.length_map,hcl]) (hrow:=λ i hi=>by
      have hi2:i<rls[q].rows.length:=(by omega);obtain ⟨b,o,c,e1,e2,e3⟩:=hR.row q hir i hi2;have e4:=hR.snd hir hq hi2;have e5:(ctS q s)[i]=lb rls[q].rows[i].2:=(by simp only [hct,List.getElem_map,e4]);have e6:(lb rls[q].rows[i].2).length=64:=lb_len (by rw [e4];exact hwl.eight _ (List.getElem_mem _));refine ⟨_,c, ?_,e5▸e3⟩
      rw [List.getElem?_map,List.getElem?_eq_getElem hi2,e5,e6];simp [e1]) (hm:=hcl) (hl:=by omega) (hll:=λ l hl=>by
      rw [hct] at hl;obtain ⟨w,hw,rfl⟩:=List.mem_map.1 hl;rw [lb_len (hwl.eight _ hw)];omega))) ?_
  rintro _ _ ⟨a24,c24,vs24,rfl,hc24,rfl⟩;refine Zd ?_;exact ⟨.slice a24 rls[q].rows.length c24,_,res1 rfl rfl,λ _ _ h=>h,_,star_assoc _ _ _,a24,c24,vs24,rfl,hc24,rfl⟩
theorem rContentsNo_f (A:SP){r:Nat}{lv av:Value}{rls:List RL}{s:DevS}(hR:RdevR A r lv rls av s){p:Int}(hno:p<0∨(s.ls.length:Int)<=p):
    Fn Tryz.prog 64 #[pz r,.int .i64 p] A (λ v B=>v= .slice none 0 0/\ A=B):=by
  refine fn_enterW func64 rfl ntmps64 (by simp) ?_;obtain ⟨bl,ol,cl_,rfl,hlc,hlr⟩:=hR.lv;have hlen:=hR.len;have htop:=hR.wf.top;refine Zcl ?_;refine Zdq ?_;refine tl_bool (d:=7) rfl (sbq ?_) (sbq ?_)
  . intro h;refine Zdl ?_;refine tk ?_;refine Zlj ?_;refine ⟨_,_,res1 rfl rfl, ?_,rfl,rfl⟩;exact Dr.sat drqz
  intro h;refine tlm ?_;refine Zfb ?_;refine tv (o_ldP (a:=some ⟨r,0,none⟩) (i:=1) p193 rfl (by repeat (first|exact hR.d|apply Rs.left)) rfl) ?_;refine tv (o_len underlying193 rfl) ?_;refine tv (o_geq rfl rfl) ?_;refine tv (o_pick_f rfl wqz) ?_;refine Zdt ?_;intro h;refine Zb6 ?_;refine ⟨_,_,res1 rfl rfl, ?_,rfl,rfl⟩;exact Dr.sat drqz
theorem rImage_f (A:SP){r:Nat}{lv av:Value}{rls:List RL}{s:DevS}(hR:RdevR A r lv rls av s):
    Fn Tryz.prog 61 #[pz r] A (λ v B=>∃X,B=A*X/\∃a c,v= .slice a (s.ls.length*64) c/\ s.ls.length*64<=c/\ X=Sl 1 (.slice a (s.ls.length*64) c) (s.ls.length*64) (bys (imgS s))):=by
  refine fn_enterW func61 rfl ntmps61 (by simp) ?_;obtain ⟨bl,ol,cl_,rfl,hlc,hlr⟩:=hR.lv;have hlen:=hR.len;have htop:=hR.wf.top;refine Zj ?_;refine Zj ?_;refine Zdw ?_;refine tc_pre (A':=A*Sl 1 (.slice none 0 0) 0 []) (λ _ _ h=>sl_nil h) ?_;refine tc_reg ?_;refine Zii ?_;refine tc_loop (λ kk ρ BB=>∃ (i:Nat) (a3:Option Addr) (c3:Nat),(i<=s.ls.length)/\ (i*64<=c3)/\ kk=s.ls.length-i/\ ρ 3= .slice a3 (i*64) c3/\ ρ 4=(vn i)/\ ρ 0=(pz r)/\ BB=A*Sl 1 (.slice a3 (i*64) c3) (i*64) (bys (img (s.ls.take i)))) (m:=s.ls.length-(0)) ?_ ?_
  . exact ⟨0,none,0,by omega,by omega,rfl,rfl,rfl,rfl,rfl⟩
  intro k ρ B hI;obtain ⟨i,a3,c3,hp0,hp1,hkk1,hE3,hE4,hE0,rfl⟩:=hI;refine te 3 hE3 ?_;refine te 4 hE4 ?_;refine te 0 hE0 ?_;refine Ze ?_;refine Zfb ?_;refine tv (o_ldP (a:=some ⟨r,0,none⟩) (i:=1) p193 rfl (by repeat (first|exact hR.d|apply Rs.left)) rfl) ?_;refine tv (o_len underlying193 rfl) ?_;refine Zn ?_;refine tc_cond rfl (λ h=> ?_) (λ h=> ?_)
  . have hi:i<s.ls.length:=(by simp at h;omega);have hir:i<rls.length:=(by omega);obtain ⟨br,orr,cr,ht,hcr,hrr⟩:=hR.top hir hi;have hs8:=seen8 (hR.wf.line _ (List.getElem_mem hi));refine Zbe ?_;refine Zh2 ?_;refine tl_c rfl (o_call bd126 rfl (rseen_f _ hR.left hir ht)) ?_;rintro _ _ ⟨rfl,rfl⟩;refine tl_x rfl (o_apR underlying57 underlying57 sz5 by5 z5 rfl (by decide) (by decide) rfl rfl ctqz hrr.left (by rw [bys_length,hs8]) (bys_all _) oqz rfl) ?_;rintro _ _ ⟨a18,c18,rfl,hc18,rfl⟩;refine Zhr ?_;exact ⟨_,by omega,i+1,a18,c18,by omega,by omega,rfl,by show Value.slice a18 (i*64+64) c18=_;rw [show (i+1)*64=i*64+64 by omega],rfl,rfl,by rw [img_take hi,bys_append,show (i+1)*64=i*64+64 by omega]⟩
  obtain rfl:i=s.ls.length:=by simp at h;omega
  rw [List.take_length]
  refine Zio ?_;exact ⟨.slice a3 (s.ls.length*64) c3,_,res1 rfl rfl,λ _ _ h=>h,_,rfl,a3,c3,rfl,hp1,rfl⟩
theorem Zkq {p r:Prop}(k:r)(h:Kq r->p:=by intro k;rintro _ _ ⟨rfl,rfl⟩;refine tlm ?_;exact k.o):p:=h ⟨k⟩
theorem rLoad_f (A:SP){r:Nat}{lv av:Value}{rls:List RL}{s:DevS}(hR:RdevR A r lv rls av s){p m:Nat}(hoff:s.off=false)(hpm:p+m<=s.ls.length*64):
    Fn Tryz.prog 174 #[pz r,vn p,vn m] A (λ v B=>∃X,B=A*X/\∃a c,v= .tuple #[.slice a m c,.int .i64 0]/\ m<=c/\ X=Sl 1 (.slice a m c) m (bys (((imgS s).drop p).take m))):=by
  refine fn_enterW func174 rfl ntmps174 (by simp) ?_;obtain ⟨bl,ol,cl_,rfl,hlc,hlr⟩:=hR.lv;have hlen:=hR.len;have htop:=hR.wf.top;have hil:=img_length hR.wf.line;refine Zc3 ?_;refine Zz ?_;refine tv (o_ldP (a:=some ⟨r,0,none⟩) (i:=5) p4 rfl (by repeat (first|exact hR.d|apply Rs.left)) rfl) ?_;refine nq ?_;refine tc_cond rfl (λ h=> ?_) (sbq ?_)
  . exfalso;rw [hoff] at h;cases h
  intro h;refine Zdf ?_;refine Z2 ?_;refine tl_c rfl (o_call bd180 rfl (rinside_f _ hR oqz oqz)) ?_;refine Zim ?_;refine tc_cond rfl (λ h=> ?_) (sbq ?_)
  . exfalso;simp at h;unfold rdy at h;rw [if_neg (by decide),if_neg oqz] at h;exact h rfl
  intro h;refine Zc ?_;refine Zj ?_;refine Zdw ?_;refine tc_pre (A':=A*Sl 1 (.slice none 0 0) 0 []) (λ _ _ h=>sl_nil h) ?_;refine Zm ?_;refine Zii ?_;refine tc_loop (λ kk ρ BB=>∃ (j:Nat) (a3:Option Addr) (c3:Nat),(j<=m)/\ (j<=c3)/\ kk=m-j/\ ρ 8= .slice a3 j c3/\ ρ 9=(vn (p+j))/\ ρ 0=(pz r)/\ ρ 1=(vn p)/\ ρ 2=(vn m)/\ BB=A*Sl 1 (.slice a3 j c3) j (bys (((imgS s).drop p).take j))) (m:=m-(0)) ?_ ?_
  . exact ⟨0,none,0,by omega,by omega,rfl,rfl,rfl,rfl,rfl,rfl,rfl⟩
  intro k ρ B hI;obtain ⟨j,a3,c3,hp0,hp1,hkk1,hE8,hE9,hE0,hE1,hE2,rfl⟩:=hI;refine te 8 hE8 ?_;refine te 9 hE9 ?_;refine te 0 hE0 ?_;refine te 1 hE1 ?_;refine te 2 hE2 ?_;refine Ze ?_;refine Zlv ?_;refine Zn ?_;refine tc_cond rfl (λ h=> ?_) (λ h=> ?_)
  . have hj:j<m:=(by simp at h;omega);have hi:(p+j)/64<s.ls.length:=(by omega);have hir:(p+j)/64<rls.length:=(by omega);obtain ⟨br,orr,cr,ht,hcr,hrr⟩:=hR.top hir hi;have hs8:=seen8 (hR.wf.line _ (List.getElem_mem hi));have hjd:j<((imgS s).drop p).length:=(by rw [List.length_drop];unfold imgS;omega)
    have hby:((imgS s).drop p)[j]=(lb (seenL s.ls[(p+j)/64]))[(p+j)%64]'(by omega):=by
      have:=img_getR hR.wf hi;rw [List.getElem?_eq_getElem (show (p+j)%64<(lb (seenL s.ls[(p+j)/64])).length by omega),←List.getElem?_drop,List.getElem?_eq_getElem hjd] at this
      exact Option.some.inj this
    refine Zbe ?_;refine Zh2 ?_;refine tv (o_quoN (b:=64) rfl rfl oqz) ?_;refine tl_c rfl (o_call bd126 rfl (rseen_f _ hR.left (i:=(p+j)/64) hir ht)) ?_;refine Zkq ?_;refine tv (o_remN (b:=64) rfl rfl oqz) ?_;refine tv (o_ixP1 underlying57 sz5 rfl rfl sq1z sq0z) ?_;refine tv (o_ldP p5 rfl hrr.left (bys_at oqz)) ?_;refine tl_x rfl (o_buildSlice1 underlying57 sz5 z5 wqz rfl) ?_;rintro _ _ ⟨b36,rfl,rfl⟩;refine tl_x rfl (o_apB underlying57 underlying57 sz5 by5 z5 rfl (by decide) (by decide) rfl rfl rfl ctqz rfl (by first|exact bys_all _|exact ints_all _|exact wds_all _|exact bos_all _|rfl) sq1z (by first|exact bys_sn _ _|exact ints_sn _ _|exact wds_sn _ _|exact bos_sn _ _|exact (bys_append _ _).symm|rfl)) ?_;rintro _ _ ⟨a37,c37,rfl,hc37,rfl⟩;refine Zdp ?_;refine Zbc ?_;refine tl_env (d:=26) (v:= .int .i64 ((p+(j+1):Nat):Int)) (rfl) ?_;refine Za ?_;exact ⟨_,by omega,j+1,a37,c37,by omega,by omega,rfl,rfl,rfl,rfl,rfl,rfl,by rw [List.take_succ_eq_append_getElem hjd,hby]⟩
  obtain rfl:j=m:=by simp at h;omega
  refine Zkg ?_;exact ⟨.tuple #[.slice a3 j c3,.int .i64 0],_,res2 rfl rfl rfl,λ _ _ h=>h,_,rfl,a3,c3,rfl,hp1,rfl⟩
theorem rLoadNo_f (A:SP){r:Nat}{lv av:Value}{rls:List RL}{s:DevS}(hR:RdevR A r lv rls av s){p m:Int}(hp: -9223372036854775808<=p/\ p<=9223372036854775807)(hm: -9223372036854775808<=m/\ m<=9223372036854775807)(hno:rdy s.ls.length s.off p m≠0):
    Fn Tryz.prog 174 #[pz r,.int .i64 p,.int .i64 m] A (λ v B=>v= .tuple #[.slice none 0 0,.int .i64 (rdy s.ls.length s.off p m)]/\ A=B):=by
  refine fn_enterW func174 rfl ntmps174 (by simp) ?_;refine Zc3 ?_;refine Zz ?_;refine tv (o_ldP (a:=some ⟨r,0,none⟩) (i:=5) p4 rfl (by repeat (first|exact hR.d|apply Rs.left)) rfl) ?_;refine nq ?_;refine tc_cond rfl (sbq ?_) (λ h=> ?_)
  . intro h;refine Zgs ?_;have e:rdy s.ls.length s.off p m=5:=(by unfold rdy;rw [if_pos h]);rw [e]
    exact ⟨.tuple #[.slice none 0 0,.int .i64 5],A,res2 rfl rfl rfl,Dr.sat drqz,rfl,rfl⟩
  have hoff:s.off=false:=(by simpa using h);have e5:rdy s.ls.length s.off p m=rdy s.ls.length false p m:=(by rw [hoff]);rw [e5] at hno ⊢
  refine Zdf ?_;refine Z2 ?_;refine tl_c rfl (o_call bd180 rfl (rinside_f _ hR hp hm)) ?_;refine Zim ?_;refine tc_cond rfl (sbq ?_) (λ h=> ?_)
  . intro h;refine Zgs ?_;have e:rdy s.ls.length false p m=6:=(by unfold rdy at hno ⊢;simp at hno ⊢;exact hno);rw [e]
    exact ⟨.tuple #[.slice none 0 0,.int .i64 6],A,res2 rfl rfl rfl,Dr.sat drqz,rfl,rfl⟩
  exfalso;simp at h;exact hno h
theorem Zg9 {p r:Prop}(k:r)(h:Kq r->p:=by intro k;refine tm 6 rfl kqz rfl (o_move wqz) ?_;refine tm 7 rfl kqz rfl (o_move wqz) ?_;exact k.o):p:=h ⟨k⟩
theorem Zkl {p r:Prop}(k:r)(h:Kq r->p:=by intro k;refine ⟨by repeat (first|with_reducible exact dr_refl|apply dr_keep|apply dr_drop), ?_⟩;refine th_one (i:=11) kqz ?_;exact k.o):p:=h ⟨k⟩
theorem Zdk {p r:Prop}(k:r)(h:Kq r->p:=by intro k;refine ⟨by repeat (first|with_reducible exact dr_refl|apply dr_keep|apply dr_drop), ?_⟩;refine tm 12 rfl kqz rfl (o_bS (l:=[_,_]) (pv_cons wqz (pv_cons wqz pv_nil)) underlying197 z197 (pl197 underlying197) rfl) ?_;exact k.o):p:=h ⟨k⟩
theorem Zer {p r:Prop}(k:r)(h:Kq r->p:=by intro k;refine ⟨by repeat (first|with_reducible exact dr_refl|apply dr_keep|apply dr_drop), ?_⟩;refine th_one (i:=14) kqz ?_;exact k.o):p:=h ⟨k⟩
theorem Zeg {p r:Prop}(k:r)(h:Kq r->p:=by intro k;refine ⟨by repeat (first|with_reducible exact dr_refl|apply dr_keep|apply dr_drop), ?_⟩;refine tm 15 rfl kqz rfl (o_nilCheck rfl) ?_;exact k.o):p:=h ⟨k⟩
theorem Zex {p r:Prop}(k:r)(h:Kq r->p:=by intro k;refine tm 16 rfl kqz rfl (o_fieldAddr (o:=1) underlying195 rfl rfl sz193 rfl) ?_;refine th_one (i:=17) kqz ?_;exact k.o):p:=h ⟨k⟩
theorem rFrom_c {F:SP}{a:Option Addr}{c m:Nat}{xs:List Nat}(n:Nat)(hr:Rs F a (bys xs):=by exact rbqz)(hx:xs.length=m:=by first|assumption|rfl)(hm:m=n*64:=by omega)(hmc:m<=c:=by omega)(hb:∀x∈xs,x<256:=by assumption)(hn:0<n:=by omega)(hn2:n<=65536:=by omega):
    Fn Tryz.prog 53 #[.slice a m c] (F) (λ v B=>∃d,v= .tuple #[pz d,.int .i64 0]/\ B=F*RDev d (fromS n xs)):=by
  refine fn_enterW func53 rfl ntmps53 (by simp) ?_;have hfit:fitsB (m:Int)=true:=(by unfold fitsB;simp;omega);refine Zc3 ?_;refine tv (o_len underlying57 rfl) ?_;refine tl_c rfl (o_call bd115 rfl (rfits_c (p:=(m:Nat)))) ?_;refine Zim ?_;refine tc_cond rfl (λ h=> ?_) (sbq ?_)
  . exfalso;rw [hfit] at h;exact absurd h (by decide)
  intro h;refine Zc6 ?_;refine tv (o_len underlying57 rfl) ?_;refine tv (o_bS (l:=[vn m,.slice none 0 0,.int .i64 0,.slice none 0 0,.int .i64 0,.bool false]) (pv_cons wqz pv_nil) underlying195 z195 (pl195 underlying195) rfl) ?_;refine tl_x rfl (o_box rfl rfl) ?_;rintro _ _ ⟨b13,rfl,rfl⟩;refine tl_pre (A':=F*Bs rlR []*pt b13 (cl ([vn (n*64),.slice none 0 0,.int .i64 0,.slice none 0 0,.int .i64 0,.bool false]) 195)*Sl 2 (.slice none 0 0) 0 []) (λ _ _ h=>sl_nil (by rw [bs_nil,star_emp,←hm];exact h)) ?_;refine Zhk ?_;refine tc_loop (λ kk ρ BB=>∃ (i:Nat) (aL:Option Addr) (cL:Nat) (rls1:List RL),(i<=n)/\ (rls1.map RL.l=(fromS n xs).ls.take i)/\ kk=n-i/\ ρ 5=(vn (i*64))/\ ρ 0= .slice a m c/\ ρ 4=(pz b13)/\ BB=F*Bs rlR rls1*pt b13 (cl ([vn (n*64),.slice aL i cL,.int .i64 0,.slice none 0 0,.int .i64 0,.bool false]) 195)*Sl 2 (.slice aL i cL) i (rls1.flatMap rcl)) (m:=n-(0)) ?_ ?_
  . exact ⟨0,none,0,[],by omega,rfl,rfl,rfl,rfl,rfl,rfl⟩
  intro k ρ B hI;obtain ⟨i,aL,cL,rls1,hp0,hp1,hkk1,hE5,hE0,hE4,rfl⟩:=hI;refine te 5 hE5 ?_;refine te 0 hE0 ?_;refine te 4 hE4 ?_;refine Zju ?_;refine tc_cond rfl (λ h=> ?_) (λ h=> ?_)
  . have hi:i<n:=(by simp at h;omega);have hrl:rls1.length=i:=(by have:=congrArg List.length hp1;rw [List.length_map,List.length_take,fromS_len] at this;omega);have hxl:((xs.drop (i*64)).take 64).length=64:=(by rw [List.length_take,List.length_drop];omega);have hlf:=lineF_lb hb (show i*64+64<=xs.length by omega);refine Zbe ?_;refine tc_regh (S:=F*Bs rlR rls1) mo drqz ?_
    show TH _ _ _ _ _ 18 (Array.replicate 18 false) _ _
    refine Zcd ?_;refine tm 2 rfl kqz rfl (o_nilCheck rfl) ?_;refine tm 3 rfl kqz rfl (o_fieldAddr (o:=1) underlying195 rfl rfl sz193 rfl) ?_;refine tm 5 rfl kqz rfl (o_move wqz) ?_;refine Zg9 ?_;refine tm 8 rfl kqz rfl (o_addI rfl rfl oqz) ?_;refine th_env (d:=28) (v:=(vn (i*64+64))) (rfl) ?_;refine tm 9 rfl kqz rfl (o_slice (l:=i*64) (h:=i*64+64) underlying57 sz5 rfl (bnd_nat rfl) (bnd_nat rfl) oqz oqz) ?_;refine th_env (d:=29) (v:= .slice (cutAddr a c (i*64) 1) 64 (c-i*64)) (by show Value.slice _ (i*64+64-i*64) _=_;rw [Nat.add_sub_cancel_left]) ?_;refine th_two (i:=4) (j:=10) kqz ?_ ?_
    . skip
      refine oh_v rfl rfl rfl (o_load p193 rfl hsqz rfl) ?_;refine th_one (i:=10) kqz ?_;refine oh_c rfl rfl rfl (o_call bd52 rfl (CopyBytes_c (xs:=(xs.drop (i*64)).take 64) (hr:=(by repeat (first|exact rs_mid hr oqz|apply Rs.left))) (hm:=hxl))) ?_;rintro _ _ ⟨a30,c30,rfl,hc30,rfl⟩;refine Zkl ?_;refine oh_x rfl rfl rfl (o_buildSlice1 underlying41 sz57 z57 rfl rfl) ?_;rintro _ _ ⟨b31,rfl,rfl⟩;refine Zdk ?_;refine th_one (i:=13) kqz ?_;refine oh_x rfl rfl rfl (o_buildSliceK (k:=2) (l:=[.slice (some ⟨b31,0,none⟩) 1 1,.int .i64 (-1)]) underlying193 sz197 z197 rfl rfl (by decide)) ?_;rintro _ _ ⟨b33,rfl,rfl⟩;refine Zer ?_;refine oh_x rfl rfl rfl (o_apB underlying193 underlying193 sz197 by197 z197 rfl (by decide) (by decide) rfl rfl rfl ctqz rfl rfl oqz (fm_sn rls1 ((⟨.slice (some ⟨b31,0,none⟩) 1 1,[(.slice a30 64 c30,seenL (lineF xs i))],-1⟩:RL)))) ?_;rintro _ _ ⟨a34,c34,rfl,hc34,rfl⟩;refine Zeg ?_;refine Zex ?_;refine oh_u rfl rfl rfl (o_stU (l':=[vn (n*64),.slice a34 (i+1) c34,.int .i64 0,.slice none 0 0,.int .i64 0,.bool false]) rfl upqz sz193 rfl rfl (by show 1<6;decide) rfl) drqz ?_;refine Zcg ?_
      have hnext:(rls1++[(⟨.slice (some ⟨b31,0,none⟩) 1 1,[(.slice a30 64 c30,seenL (lineF xs i))],-1⟩:RL)]).map RL.l=(fromS n xs).ls.take (i+1):=by
        rw [List.map_append,hp1,List.take_succ_eq_append_getElem (by rw [fromS_len];exact hi),fromS_at xs hi];rfl
      refine tc_pre (A':=F*Bs rlR (rls1++[(⟨.slice (some ⟨b31,0,none⟩) 1 1,[(.slice a30 64 c30,seenL (lineF xs i))],-1⟩:RL)])*pt b13 (cl ([vn (n*64),.slice a34 (i+1) c34,.int .i64 0,.slice none 0 0,.int .i64 0,.bool false]) 195)*Sl 2 (.slice a34 (i+1) c34) (i+1) ((rls1++[(⟨.slice (some ⟨b31,0,none⟩) 1 1,[(.slice a30 64 c30,seenL (lineF xs i))],-1⟩:RL)]).flatMap rcl)) (λ _ _ h=> ?_) ?_
      . have e:rlR (⟨.slice (some ⟨b31,0,none⟩) 1 1,[(.slice a30 64 c30,seenL (lineF xs i))],-1⟩:RL)=Sl 1 (.slice (some ⟨b31,0,none⟩) 1 1) 1 [.slice a30 64 c30]*SlR 1 (.slice a30 64 c30) 64 (bys ((xs.drop (i*64)).take 64)):=by
          show Sl 1 _ 1 [_]*Bs rowR [_]=_
          rw [bs_cons,bs_nil,emp_star]
          show _*SlR 1 _ 64 (bys (lb (seenL (lineF xs i))))=_
          rw [hlf]
        rw [bs_snoc,e]
        have h1:=sl_share (h.perm (show _=F*Bs rlR rls1*pt b13 (cl ([vn (n*64),.slice a34 (i+1) c34,.int .i64 0,.slice none 0 0,.int .i64 0,.bool false]) 195)*Sl 2 (.slice a34 (i+1) c34) (i+1) ((rls1++[(⟨.slice (some ⟨b31,0,none⟩) 1 1,[(.slice a30 64 c30,seenL (lineF xs i))],-1⟩:RL)]).flatMap rcl)*pt b31 (cl [.slice a30 64 c30] 57)*Sl 1 (.slice a30 64 c30) 64 (bys ((xs.drop (i*64)).take 64)) by ac_rfl));have h2:=sl_new (k:=1) (n:=1) (cap:=1) (xs:=[.slice a30 64 c30]) (h1.perm (star_swap _ _ _)) (by decide) (Nat.le_refl _) rfl;exact h2.perm (by ac_rfl)
      refine Zbc ?_;refine tl_env (d:=19) (v:= .int .i64 (((i+1)*64:Nat):Int)) (by show Value.int .i64 _=_;congr 1;omega) ?_;refine Za ?_;exact ⟨_,by omega,i+1,a34,c34,rls1++[(⟨.slice (some ⟨b31,0,none⟩) 1 1,[(.slice a30 64 c30,seenL (lineF xs i))],-1⟩:RL)],by omega,hnext,rfl,rfl,rfl,rfl,rfl⟩
    . skip
      refine oh_c rfl rfl rfl (o_call bd52 rfl (CopyBytes_c (xs:=(xs.drop (i*64)).take 64) (hr:=(by repeat (first|exact rs_mid hr oqz|apply Rs.left))) (hm:=hxl))) ?_;rintro _ _ ⟨a30,c30,rfl,hc30,rfl⟩;refine ⟨by repeat (first|with_reducible exact dr_refl|apply dr_keep|apply dr_drop), ?_⟩;refine th_two (i:=4) (j:=11) kqz ?_ ?_
      . skip
        refine oh_v rfl rfl rfl (o_load p193 rfl hsqz rfl) ?_;refine th_one (i:=11) kqz ?_;refine oh_x rfl rfl rfl (o_buildSlice1 underlying41 sz57 z57 rfl rfl) ?_;rintro _ _ ⟨b31,rfl,rfl⟩;refine Zdk ?_;refine th_one (i:=13) kqz ?_;refine oh_x rfl rfl rfl (o_buildSliceK (k:=2) (l:=[.slice (some ⟨b31,0,none⟩) 1 1,.int .i64 (-1)]) underlying193 sz197 z197 rfl rfl (by decide)) ?_;rintro _ _ ⟨b33,rfl,rfl⟩;refine Zer ?_;refine oh_x rfl rfl rfl (o_apB underlying193 underlying193 sz197 by197 z197 rfl (by decide) (by decide) rfl rfl rfl ctqz rfl rfl oqz (fm_sn rls1 ((⟨.slice (some ⟨b31,0,none⟩) 1 1,[(.slice a30 64 c30,seenL (lineF xs i))],-1⟩:RL)))) ?_;rintro _ _ ⟨a34,c34,rfl,hc34,rfl⟩;refine Zeg ?_;refine Zex ?_;refine oh_u rfl rfl rfl (o_stU (l':=[vn (n*64),.slice a34 (i+1) c34,.int .i64 0,.slice none 0 0,.int .i64 0,.bool false]) rfl upqz sz193 rfl rfl (by show 1<6;decide) rfl) drqz ?_;refine Zcg ?_
        have hnext:(rls1++[(⟨.slice (some ⟨b31,0,none⟩) 1 1,[(.slice a30 64 c30,seenL (lineF xs i))],-1⟩:RL)]).map RL.l=(fromS n xs).ls.take (i+1):=by
          rw [List.map_append,hp1,List.take_succ_eq_append_getElem (by rw [fromS_len];exact hi),fromS_at xs hi];rfl
        refine tc_pre (A':=F*Bs rlR (rls1++[(⟨.slice (some ⟨b31,0,none⟩) 1 1,[(.slice a30 64 c30,seenL (lineF xs i))],-1⟩:RL)])*pt b13 (cl ([vn (n*64),.slice a34 (i+1) c34,.int .i64 0,.slice none 0 0,.int .i64 0,.bool false]) 195)*Sl 2 (.slice a34 (i+1) c34) (i+1) ((rls1++[(⟨.slice (some ⟨b31,0,none⟩) 1 1,[(.slice a30 64 c30,seenL (lineF xs i))],-1⟩:RL)]).flatMap rcl)) (λ _ _ h=> ?_) ?_
        . have e:rlR (⟨.slice (some ⟨b31,0,none⟩) 1 1,[(.slice a30 64 c30,seenL (lineF xs i))],-1⟩:RL)=Sl 1 (.slice (some ⟨b31,0,none⟩) 1 1) 1 [.slice a30 64 c30]*SlR 1 (.slice a30 64 c30) 64 (bys ((xs.drop (i*64)).take 64)):=by
            show Sl 1 _ 1 [_]*Bs rowR [_]=_
            rw [bs_cons,bs_nil,emp_star]
            show _*SlR 1 _ 64 (bys (lb (seenL (lineF xs i))))=_
            rw [hlf]
          rw [bs_snoc,e]
          have h1:=sl_share (h.perm (show _=F*Bs rlR rls1*pt b13 (cl ([vn (n*64),.slice a34 (i+1) c34,.int .i64 0,.slice none 0 0,.int .i64 0,.bool false]) 195)*Sl 2 (.slice a34 (i+1) c34) (i+1) ((rls1++[(⟨.slice (some ⟨b31,0,none⟩) 1 1,[(.slice a30 64 c30,seenL (lineF xs i))],-1⟩:RL)]).flatMap rcl)*pt b31 (cl [.slice a30 64 c30] 57)*Sl 1 (.slice a30 64 c30) 64 (bys ((xs.drop (i*64)).take 64)) by ac_rfl));have h2:=sl_new (k:=1) (n:=1) (cap:=1) (xs:=[.slice a30 64 c30]) (h1.perm (star_swap _ _ _)) (by decide) (Nat.le_refl _) rfl;exact h2.perm (by ac_rfl)
        refine Zbc ?_;refine tl_env (d:=19) (v:= .int .i64 (((i+1)*64:Nat):Int)) (by show Value.int .i64 _=_;congr 1;omega) ?_;refine Za ?_;exact ⟨_,by omega,i+1,a34,c34,rls1++[(⟨.slice (some ⟨b31,0,none⟩) 1 1,[(.slice a30 64 c30,seenL (lineF xs i))],-1⟩:RL)],by omega,hnext,rfl,rfl,rfl,rfl,rfl⟩
      . skip
        refine oh_x rfl rfl rfl (o_buildSlice1 underlying41 sz57 z57 rfl rfl) ?_;rintro _ _ ⟨b31,rfl,rfl⟩;refine Zdk ?_;refine th_two (i:=4) (j:=13) kqz ?_ ?_
        . skip
          refine oh_v rfl rfl rfl (o_load p193 rfl hsqz rfl) ?_;refine th_one (i:=13) kqz ?_;refine oh_x rfl rfl rfl (o_buildSliceK (k:=2) (l:=[.slice (some ⟨b31,0,none⟩) 1 1,.int .i64 (-1)]) underlying193 sz197 z197 rfl rfl (by decide)) ?_;rintro _ _ ⟨b33,rfl,rfl⟩;refine Zer ?_;refine oh_x rfl rfl rfl (o_apB underlying193 underlying193 sz197 by197 z197 rfl (by decide) (by decide) rfl rfl rfl ctqz rfl rfl oqz (fm_sn rls1 ((⟨.slice (some ⟨b31,0,none⟩) 1 1,[(.slice a30 64 c30,seenL (lineF xs i))],-1⟩:RL)))) ?_;rintro _ _ ⟨a34,c34,rfl,hc34,rfl⟩;refine Zeg ?_;refine Zex ?_;refine oh_u rfl rfl rfl (o_stU (l':=[vn (n*64),.slice a34 (i+1) c34,.int .i64 0,.slice none 0 0,.int .i64 0,.bool false]) rfl upqz sz193 rfl rfl (by show 1<6;decide) rfl) drqz ?_;refine Zcg ?_
          have hnext:(rls1++[(⟨.slice (some ⟨b31,0,none⟩) 1 1,[(.slice a30 64 c30,seenL (lineF xs i))],-1⟩:RL)]).map RL.l=(fromS n xs).ls.take (i+1):=by
            rw [List.map_append,hp1,List.take_succ_eq_append_getElem (by rw [fromS_len];exact hi),fromS_at xs hi];rfl
          refine tc_pre (A':=F*Bs rlR (rls1++[(⟨.slice (some ⟨b31,0,none⟩) 1 1,[(.slice a30 64 c30,seenL (lineF xs i))],-1⟩:RL)])*pt b13 (cl ([vn (n*64),.slice a34 (i+1) c34,.int .i64 0,.slice none 0 0,.int .i64 0,.bool false]) 195)*Sl 2 (.slice a34 (i+1) c34) (i+1) ((rls1++[(⟨.slice (some ⟨b31,0,none⟩) 1 1,[(.slice a30 64 c30,seenL (lineF xs i))],-1⟩:RL)]).flatMap rcl)) (λ _ _ h=> ?_) ?_
          . have e:rlR (⟨.slice (some ⟨b31,0,none⟩) 1 1,[(.slice a30 64 c30,seenL (lineF xs i))],-1⟩:RL)=Sl 1 (.slice (some ⟨b31,0,none⟩) 1 1) 1 [.slice a30 64 c30]*SlR 1 (.slice a30 64 c30) 64 (bys ((xs.drop (i*64)).take 64)):=by
              show Sl 1 _ 1 [_]*Bs rowR [_]=_
              rw [bs_cons,bs_nil,emp_star]
              show _*SlR 1 _ 64 (bys (lb (seenL (lineF xs i))))=_
              rw [hlf]
            rw [bs_snoc,e]
            have h1:=sl_share (h.perm (show _=F*Bs rlR rls1*pt b13 (cl ([vn (n*64),.slice a34 (i+1) c34,.int .i64 0,.slice none 0 0,.int .i64 0,.bool false]) 195)*Sl 2 (.slice a34 (i+1) c34) (i+1) ((rls1++[(⟨.slice (some ⟨b31,0,none⟩) 1 1,[(.slice a30 64 c30,seenL (lineF xs i))],-1⟩:RL)]).flatMap rcl)*pt b31 (cl [.slice a30 64 c30] 57)*Sl 1 (.slice a30 64 c30) 64 (bys ((xs.drop (i*64)).take 64)) by ac_rfl));have h2:=sl_new (k:=1) (n:=1) (cap:=1) (xs:=[.slice a30 64 c30]) (h1.perm (star_swap _ _ _)) (by decide) (Nat.le_refl _) rfl;exact h2.perm (by ac_rfl)
          refine Zbc ?_;refine tl_env (d:=19) (v:= .int .i64 (((i+1)*64:Nat):Int)) (by show Value.int .i64 _=_;congr 1;omega) ?_;refine Za ?_;exact ⟨_,by omega,i+1,a34,c34,rls1++[(⟨.slice (some ⟨b31,0,none⟩) 1 1,[(.slice a30 64 c30,seenL (lineF xs i))],-1⟩:RL)],by omega,hnext,rfl,rfl,rfl,rfl,rfl⟩
        . skip
          refine oh_x rfl rfl rfl (o_buildSliceK (k:=2) (l:=[.slice (some ⟨b31,0,none⟩) 1 1,.int .i64 (-1)]) underlying193 sz197 z197 rfl rfl (by decide)) ?_;rintro _ _ ⟨b33,rfl,rfl⟩;refine Zgi ?_;refine oh_v rfl rfl rfl (o_load p193 rfl hsqz rfl) ?_;refine th_one (i:=14) kqz ?_;refine oh_x rfl rfl rfl (o_apB underlying193 underlying193 sz197 by197 z197 rfl (by decide) (by decide) rfl rfl rfl ctqz rfl rfl oqz (fm_sn rls1 ((⟨.slice (some ⟨b31,0,none⟩) 1 1,[(.slice a30 64 c30,seenL (lineF xs i))],-1⟩:RL)))) ?_;rintro _ _ ⟨a34,c34,rfl,hc34,rfl⟩;refine Zeg ?_;refine Zex ?_;refine oh_u rfl rfl rfl (o_stU (l':=[vn (n*64),.slice a34 (i+1) c34,.int .i64 0,.slice none 0 0,.int .i64 0,.bool false]) rfl upqz sz193 rfl rfl (by show 1<6;decide) rfl) drqz ?_;refine Zcg ?_
          have hnext:(rls1++[(⟨.slice (some ⟨b31,0,none⟩) 1 1,[(.slice a30 64 c30,seenL (lineF xs i))],-1⟩:RL)]).map RL.l=(fromS n xs).ls.take (i+1):=by
            rw [List.map_append,hp1,List.take_succ_eq_append_getElem (by rw [fromS_len];exact hi),fromS_at xs hi];rfl
          refine tc_pre (A':=F*Bs rlR (rls1++[(⟨.slice (some ⟨b31,0,none⟩) 1 1,[(.slice a30 64 c30,seenL (lineF xs i))],-1⟩:RL)])*pt b13 (cl ([vn (n*64),.slice a34 (i+1) c34,.int .i64 0,.slice none 0 0,.int .i64 0,.bool false]) 195)*Sl 2 (.slice a34 (i+1) c34) (i+1) ((rls1++[(⟨.slice (some ⟨b31,0,none⟩) 1 1,[(.slice a30 64 c30,seenL (lineF xs i))],-1⟩:RL)]).flatMap rcl)) (λ _ _ h=> ?_) ?_
          . have e:rlR (⟨.slice (some ⟨b31,0,none⟩) 1 1,[(.slice a30 64 c30,seenL (lineF xs i))],-1⟩:RL)=Sl 1 (.slice (some ⟨b31,0,none⟩) 1 1) 1 [.slice a30 64 c30]*SlR 1 (.slice a30 64 c30) 64 (bys ((xs.drop (i*64)).take 64)):=by
              show Sl 1 _ 1 [_]*Bs rowR [_]=_
              rw [bs_cons,bs_nil,emp_star]
              show _*SlR 1 _ 64 (bys (lb (seenL (lineF xs i))))=_
              rw [hlf]
            rw [bs_snoc,e]
            have h1:=sl_share (h.perm (show _=F*Bs rlR rls1*pt b13 (cl ([vn (n*64),.slice a34 (i+1) c34,.int .i64 0,.slice none 0 0,.int .i64 0,.bool false]) 195)*Sl 2 (.slice a34 (i+1) c34) (i+1) ((rls1++[(⟨.slice (some ⟨b31,0,none⟩) 1 1,[(.slice a30 64 c30,seenL (lineF xs i))],-1⟩:RL)]).flatMap rcl)*pt b31 (cl [.slice a30 64 c30] 57)*Sl 1 (.slice a30 64 c30) 64 (bys ((xs.drop (i*64)).take 64)) by ac_rfl));have h2:=sl_new (k:=1) (n:=1) (cap:=1) (xs:=[.slice a30 64 c30]) (h1.perm (star_swap _ _ _)) (by decide) (Nat.le_refl _) rfl;exact h2.perm (by ac_rfl)
          refine Zbc ?_;refine tl_env (d:=19) (v:= .int .i64 (((i+1)*64:Nat):Int)) (by show Value.int .i64 _=_;congr 1;omega) ?_;refine Za ?_;exact ⟨_,by omega,i+1,a34,c34,rls1++[(⟨.slice (some ⟨b31,0,none⟩) 1 1,[(.slice a30 64 c30,seenL (lineF xs i))],-1⟩:RL)],by omega,hnext,rfl,rfl,rfl,rfl,rfl⟩
  obtain rfl:i=n:=by simp at h;omega
  rw [List.take_of_length_le (by rw [fromS_len];exact Nat.le_refl _)] at hp1
  refine Zkg ?_;refine ⟨.tuple #[pz b13,.int .i64 0],F*RDev b13 (fromS i xs),res2 rfl rfl rfl,λ _ _ h=> ?_,b13,rfl,rfl⟩;refine rdev_back (lv:= .slice aL i cL) (rls:=rls1) (av:= .slice none 0 0) (kvs:=[]) (fromS_wf hn hn2 hb) hp1 rfl _ _ ?_;have h1:=sl_nil (k:=2) h;refine h1.perm ?_
  unfold RDevC ArmsR rdcs
  rw [fromS_len]
  show _=F*(_*_*_*(Sl 2 (.slice none 0 0) 0 []*emp))
  rw [star_emp]
  rw [show (fromS i xs).ops=0 from rfl,show (fromS i xs).cnt=0 from rfl,show (fromS i xs).off=false from rfl]
  ac_rfl
theorem rOps_c {A R:SP}{C:SP->SP}{r:Nat}{s:DevS}(hc:Ct A (RDev r s) R C:=by exact cbqz)  :
    Fn Tryz.prog 57 #[pz r] A (λ v B=>v= .int .i64 s.ops/\ A=B):=by
  obtain ⟨rfl,hC⟩:=hc;exact fn_rdevR0 λ A lv rls av hR=>rOps_f A hR
theorem rOff_c {A R:SP}{C:SP->SP}{r:Nat}{s:DevS}(hc:Ct A (RDev r s) R C:=by exact cbqz)  :
    Fn Tryz.prog 59 #[pz r] A (λ v B=>v= .bool s.off/\ A=B):=by
  obtain ⟨rfl,hC⟩:=hc;exact fn_rdevR0 λ A lv rls av hR=>rOff_f A hR
theorem rStore8_c {A R:SP}{C:SP->SP}{r:Nat}{s:DevS}(hc:Ct A (RDev r s) R C:=by exact cbqz){v:Nat}{p:Int}(hp: -9223372036854775808<=p/\ p<=9223372036854775807:=by omega)(hv:v<18446744073709551616:=by omega)(hroom:Room 1 s:=by assumption):
    Fn Tryz.prog 263 #[pz r,.int .i64 p,.int .u64 (v:Nat)] A (λ r_ B=>∃e s2,st8 p v s=(e,s2)/\ r_= .int .i64 e/\ B=C (RDev r s2)):=by
  obtain ⟨rfl,hC⟩:=hc;exact (rStore8_f R hp hv hroom).mono λ _ _ h=>⟨(st8 p v s).1,(st8 p v s).2,rfl,h.1,by rw [hC];exact h.2⟩
theorem rFlush_c {A R:SP}{C:SP->SP}{r:Nat}{s:DevS}(hc:Ct A (RDev r s) R C:=by exact cbqz){p:Int}(hp: -9223372036854775808<=p/\ p<=9223372036854775807:=by omega):
    Fn Tryz.prog 262 #[pz r,.int .i64 p] A (λ r_ B=>∃e s2,fl1 p s=(e,s2)/\ r_= .int .i64 e/\ B=C (RDev r s2)):=by
  obtain ⟨rfl,hC⟩:=hc;exact (rFlush_f R hp).mono λ _ _ h=>⟨(fl1 p s).1,(fl1 p s).2,rfl,h.1,by rw [hC];exact h.2⟩
theorem rFence_c {A R:SP}{C:SP->SP}{r:Nat}{s:DevS}(hc:Ct A (RDev r s) R C:=by exact cbqz)  :
    Fn Tryz.prog 223 #[pz r] A (λ r_ B=>∃e s2,fe s=(e,s2)/\ r_= .int .i64 e/\ B=C (RDev r s2)):=by
  obtain ⟨rfl,hC⟩:=hc;exact (rFence_f R).mono λ _ _ h=>⟨(fe s).1,(fe s).2,rfl,h.1,by rw [hC];exact h.2⟩
theorem rWake_c {A R:SP}{C:SP->SP}{r:Nat}{s:DevS}(hc:Ct A (RDev r s) R C:=by exact cbqz)  :
    Fn Tryz.prog 122 #[pz r] A (λ r_ B=>r_= .int .i64 (if s.off then 0 else 3)/\ B=C (RDev r { s with off:=false })):=by
  obtain ⟨rfl,hC⟩:=hc;exact (rWake_f R).mono λ _ _ h=>⟨h.1,by rw [hC];exact h.2⟩
theorem rCrash_c {A R:SP}{C:SP->SP}{r:Nat}{s:DevS}(hc:Ct A (RDev r s) R C:=by exact cbqz){a:Option Addr}{c m:Nat}{keep:List Int}(hr:Rs R a (ints keep):=by exact rbqz)(hk:∀k∈keep,k<=9223372036854775807:=by assumption)(hm:keep.length=m:=by first|assumption|rfl)(hkl:m<=17592186044416:=by omega):
    Fn Tryz.prog 121 #[pz r,.slice a m c] A (λ r_ B=>∃e s2,crS keep s=(e,s2)/\ r_= .int .i64 e/\ B=C (RDev r s2)):=by
  obtain ⟨rfl,hC⟩:=hc;exact (rCrash_f R hr hk hm hkl).mono λ _ _ h=>⟨(crS keep s).1,(crS keep s).2,rfl,h.1,by rw [hC];exact h.2⟩
theorem rStore_c {A R:SP}{C:SP->SP}{r:Nat}{s:DevS}(hc:Ct A (RDev r s) R C:=by exact cbqz){a:Option Addr}{c m:Nat}{p:Int}{xs:List Nat}(hr:Rs R a (bys xs):=by exact rbqz)(hm:xs.length=m:=by first|assumption|rfl)(hmc:m<=c:=by first|assumption|omega)(hb:∀x∈xs,x<256:=by assumption)(hml:m<=140737488351232:=by omega)(hp: -9223372036854775808<=p/\ p<=9223372036854775807:=by omega)(hroom:rdy s.ls.length s.off p m=0->Room m s:=by assumption):
    Fn Tryz.prog 124 #[pz r,.int .i64 p,.slice a m c] A (λ r_ B=>∃e s2,sto p xs s=(e,s2)/\ r_= .int .i64 e/\ B=C (RDev r s2)):=by
  obtain ⟨rfl,hC⟩:=hc;exact (rStoreW_f R hr hm hmc hb hml hp hroom).mono λ _ _ h=>⟨(sto p xs s).1,(sto p xs s).2,rfl,h.1,by rw [hC];exact h.2⟩
theorem rArm_c {A R:SP}{C:SP->SP}{r:Nat}{s:DevS}(hc:Ct A (RDev r s) R C:=by exact cbqz){a:Option Addr}{c m:Nat}{kvs:List Value}{ars:List (Int×List Int)}(hr:RdA R a kvs ars)(hm:ars.length=m:=by first|assumption|rfl)(hl:m<=17592186044416:=by omega)(hk:∀x∈ars,(-9223372036854775808<=x.1/\ x.1<=9223372036854775807)/\ x.2.length<=17592186044416/\∀k∈x.2,k<=9223372036854775807):
    Fn Tryz.prog 120 #[pz r,.slice a m c] A (λ r_ B=>∃e s2,armS ars s=(e,s2)/\ r_= .int .i64 e/\ B=C (RDev r s2)):=by
  obtain ⟨rfl,hC⟩:=hc;exact (rArm_f R hr hm hl hk).mono λ _ _ h=>⟨(armS ars s).1,(armS ars s).2,rfl,h.1,by rw [hC];exact h.2⟩
theorem rImage_c {A R:SP}{C:SP->SP}{r:Nat}{s:DevS}(hc:Ct A (RDev r s) R C:=by exact cbqz)  :
    Fn Tryz.prog 61 #[pz r] A (λ v B=>∃a c,v= .slice a (s.ls.length*64) c/\ s.ls.length*64<=c/\ B=A*Sl 1 (.slice a (s.ls.length*64) c) (s.ls.length*64) (bys (imgS s))):=by
  obtain ⟨rfl,hC⟩:=hc;exact (fn_rdevR (q:=λ v X=>∃a c,v= .slice a (s.ls.length*64) c/\ s.ls.length*64<=c/\ X=Sl 1 (.slice a (s.ls.length*64) c) (s.ls.length*64) (bys (imgS s))) λ A lv rls av hR=>rImage_f A hR).mono λ v B ⟨X,e,a,c,h1,h2,h3⟩=>⟨a,c,h1,h2,by rw [e,h3]⟩
theorem rContents_c {A R:SP}{C:SP->SP}{r:Nat}{s:DevS}(hc:Ct A (RDev r s) R C:=by exact cbqz){q:Nat}(hq:q<s.ls.length:=by omega):
    Fn Tryz.prog 64 #[pz r,vn q] A (λ v B=>∃a c vs,v= .slice a (ctS q s).length c/\ (ctS q s).length<=c/\ B=A*Parts vs (ctS q s)*Sl 1 (.slice a (ctS q s).length c) (ctS q s).length vs):=by
  obtain ⟨rfl,hC⟩:=hc;exact (fn_rdevR (q:=λ v X=>∃a c vs,v= .slice a (ctS q s).length c/\ (ctS q s).length<=c/\ X=Parts vs (ctS q s)*Sl 1 (.slice a (ctS q s).length c) (ctS q s).length vs) λ A lv rls av hR=>rContents_f A hR hq).mono λ v B ⟨X,e,a,c,vs,h1,h2,h3⟩=>⟨a,c,vs,h1,h2,by rw [e,h3];simp only [star_assoc]⟩
theorem rContentsNo_c {A R:SP}{C:SP->SP}{r:Nat}{s:DevS}(hc:Ct A (RDev r s) R C:=by exact cbqz){p:Int}(hno:p<0∨(s.ls.length:Int)<=p:=by omega):
    Fn Tryz.prog 64 #[pz r,.int .i64 p] A (λ v B=>v= .slice none 0 0/\ A=B):=by
  obtain ⟨rfl,hC⟩:=hc;exact fn_rdevR0 λ A lv rls av hR=>rContentsNo_f A hR hno
theorem rLoad_c {A R:SP}{C:SP->SP}{r:Nat}{s:DevS}(hc:Ct A (RDev r s) R C:=by exact cbqz){p m:Nat}(hoff:s.off=false:=by assumption)(hpm:p+m<=s.ls.length*64:=by omega):
    Fn Tryz.prog 174 #[pz r,vn p,vn m] A (λ v B=>∃a c,v= .tuple #[.slice a m c,.int .i64 0]/\ m<=c/\ B=A*Sl 1 (.slice a m c) m (bys (((imgS s).drop p).take m))):=by
  obtain ⟨rfl,hC⟩:=hc;exact (fn_rdevR (q:=λ v X=>∃a c,v= .tuple #[.slice a m c,.int .i64 0]/\ m<=c/\ X=Sl 1 (.slice a m c) m (bys (((imgS s).drop p).take m))) λ A lv rls av hR=>rLoad_f A hR hoff hpm).mono λ v B ⟨X,e,a,c,h1,h2,h3⟩=>⟨a,c,h1,h2,by rw [e,h3]⟩
theorem rLoadNo_c {A R:SP}{C:SP->SP}{r:Nat}{s:DevS}(hc:Ct A (RDev r s) R C:=by exact cbqz){p m:Int}(hp: -9223372036854775808<=p/\ p<=9223372036854775807:=by omega)(hm: -9223372036854775808<=m/\ m<=9223372036854775807:=by omega)(hno:rdy s.ls.length s.off p m≠0:=by assumption):
    Fn Tryz.prog 174 #[pz r,.int .i64 p,.int .i64 m] A (λ v B=>v= .tuple #[.slice none 0 0,.int .i64 (rdy s.ls.length s.off p m)]/\ A=B):=by
  obtain ⟨rfl,hC⟩:=hc;exact fn_rdevR0 λ A lv rls av hR=>rLoadNo_f A hR hp hm hno
end Go.Vl

namespace Go.Vl
open Go Go.Proofs Go.Proofs.Tryz
theorem Foc.words {A A':SP}{hvs:List Value}{held:List (List Nat)}(h:Foc A (Words hvs held) (Words hvs held) A')(hl:hvs.length=held.length){g:Gh}{w:World}(hs:sat g w A):
    ∀i (hi:i<held.length),∃a c,hvs[i]? =some (.slice a held[i].length c)/\ Rd A a (wds held[i]):=λ i hi=>by
  obtain ⟨R,hA,_⟩:=h;obtain ⟨S,h1,_⟩:=words_get hl hi;rw [h1,←star_assoc] at hA
  obtain ⟨a,c,e,_,_,hr⟩:=sl_have' hA hs;exact ⟨a,c,by rw [List.getElem?_eq_getElem oqz,e],hr⟩
structure Lasts (P:PlS) (s2:DevS):Prop where
  len:s2.ls.length=P.marks.length
  wf:WfD s2
  wfp:WfD P.s
  seen:∀i (h:i<P.seen.length),nm (((imgS P.s).drop (8*i)).take 8)=P.seen[i]
  held:∀i (h:i<P.held.length),nm (((imgS s2).drop (8*i)).take 8)∈P.held[i]
  last:∀i (h:i<P.sure.length) (h':i<P.last.length),P.sure[i]=true->nm (((imgS s2).drop (8*i)).take 8)=P.last[i]
structure InvL (P:PlS) (w:Nat) (l:LineS):Prop where
  seen:(seenL l).getD (w%8) 0=P.seen.getD w 0
  held:∀σ∈l.st,σ.getD (w%8) 0∈P.held.getD w []
  last:P.sure.getD w false=true->∀σ∈l.st,σ.getD (w%8) 0=P.last.getD w 0
  mark:P.marks.getD (w/8) 0=1->l.mark=(l.st.length:Int)-1
def Inv (P:PlS):Prop:=∀w l,w<P.seen.length->P.s.ls[w/8]? =some l->InvL P w l
instance:Inhabited StepC:=⟨⟨0,0,.bool false,0,.bool false,.bool false,.bool false⟩⟩
theorem wfR_ct {A R:SP}{C:SP->SP}{r:Nat}{s:DevS}(hc:Ct A (RDev r s) R C){g:Gh}{w:World}(hs:sat g w A):WfD s:=by
  obtain ⟨rfl,_⟩:=hc;exact (rdev_iff.1 hs).1
theorem nm_snocr (x:Nat)(l:List Nat):nm (x::l)=x+256*nm l:=rfl
theorem nm_bound {l:List Nat}(h:∀x∈l,x<256)(hl:l.length<=8):nm l<18446744073709551616:=Nat.lt_of_lt_of_le (nm_lt l h) (by calc 256^l.length<=256^8:=Nat.pow_le_pow_right (by decide) hl
  _=18446744073709551616:=by decide)
section
variable {P:Program} {n:Nat} {ρ:Env} {dst:Option Nat} {ty:TypeId} {pos:String} {after:Array Edge} {gd:Option (Nat×Bool)} {A:SP}
end
def rdT (n:Nat)(I:List Nat):List Int×Int:=if I.take 64=sbB [n,128,32768,32896,(n-32896)/256,0] then ([(n:Int),((128:Nat):Int),((32768:Nat):Int),((32896:Nat):Int),(((n-32896)/256:Nat):Int)],0) else ([0,0,0,0,0],100)
def wk1:DevS:=(bytesP 60 [1,1,1,1,1,1,1,1] (newS 2)).2
def wk2:DevS:=(pubP 8 258 wk1).2
def wk3:DevS:=(crS [] wk2).2
def wk4:DevS:={ wk3 with off:=false }
def nk1:DevS:=(crS [] (newS 1)).2
theorem o_apGr {P:Program}{n:Nat}{ρ:Env}{A:SP}{dst:Option Tmp}{ty:TypeId}{pos:String}{after:Array Edge}{gd:Option (Nat×Bool)}{t t' e e':TypeId}{x y:Operand}{v z:Value}{p m q bytes c c0 b:Nat}{a:Option Addr}{os xs ys zs:List Value}{A0 R:SP}{C:SP->SP}{E:TypeId}
    (hu:P.underlying t=some (.slice e)) (hu':P.underlying t'=some (.slice e')) (hk:szE P e=some 1) (hb:bytesE P e=some bytes) (hz:zeroE P e=some z) (hzk:z.cells.size=1) (hb0:0<bytes)
    (hx:ev n ρ x= .slice a q c0) (hy:ev n ρ y= .slice (some ⟨b,0,none⟩) m c) (hA:A=A0*pt b (cl ys E)) (hf:Ct A0 (Gr v p os (.slice a q c0) q xs) R C) (hm:ys.length=m) (ho:ys.all oneC=true) (hlim:(q+m)*bytes<=140737488355328) (he:xs++ys=zs):
    OpX P n ρ A ⟨dst,.call { callee:= .builtin .append,args:= #[x,y],argTypes:= #[t,t'] },ty,pos,after,gd⟩ (λ v' B=>∃a' c',v'= .slice a' (q+m) c'/\ q+m<=c'/\ B=C (Gr v p os (.slice a' (q+m) c') (q+m) zs)):=λ g w hs=>by
  subst he;obtain ⟨rfl,hC⟩:=hf
  obtain ⟨v',w',B,hr,hB,rfl⟩:=o_appendGr (dst:=dst) (ty:=ty) (pos:=pos) (after:=after) (gd:=gd) (R:=R*pt b (cl ys E)) hu hu' hk hb hz hzk hb0 hx hy (by rw [hA,star_swap])
    (rd_cells (cells_of_has (k:=ys.length) (by rw [hA];exact has_here) (by simp))) hm (λ u hu=>List.all_eq_true.1 ho u hu) hlim g w hs
  have hB2:sat g w' (R*Gr v p os v' (q+m) (xs++ys)):=hB.drop2;obtain ⟨_,_,a',c',_,e2,_,_,_,g2,_⟩:=gr_have hB2;subst e2;exact ⟨_,w',_,hr,hB2,a',c',rfl,g2,(hC _).symm⟩
def mk (i k:Nat):Nat:=(i*31+k*7+1)%256
def mks (i n:Nat):List Nat:=(List.range n).map (mk i)
theorem mks_length (i n:Nat):(mks i n).length=n:=by simp [mks]
theorem mks_succ (i n:Nat):mks i (n+1)=mks i n++[mk i n]:=by simp [mks,List.range_succ]
theorem mks_at {i n k:Nat}(h:k<n):(bys (mks i n))[k]? =some (.int .u8 ((mk i k:Nat):Int)):=by simp [bys,mks,h,b8]
theorem mks_pm (i:Nat)(l:List Nat):pm (λ k _=>mk i k) l.length l=mks i l.length:=by
  rw [pm_all]
  apply List.ext_getElem?
  intro j
  simp only [mks,List.getElem?_mapIdx,List.getElem?_map,List.getElem?_range']
  rcases Nat.lt_or_ge j l.length with h|h
  . simp [h]
  simp [h]
def mkL (j:Nat)(l:List Nat):List Nat:=mks j l.length
def PM:Nat->List Value->List Nat->SP
  |j,v::vs,n::ns=>PM (j+1) vs ns*Sl 1 v n (bys (mks j n))
  |_,[],[]=>emp
  |_,_,_=>pure_ False
def GP:Nat->List Value->List Value->List Nat->SP
  |j,v::vs,g::gs,n::ns=>GP (j+1) vs gs ns*Gr v n (bys (mks j n)) g (n+70) (bys (mks j (n+70)))
  |_,[],[],[]=>emp
  |_,_,_,_=>pure_ False
theorem parts_PM:∀{vs:List Value} {ls:List (List Nat)} {j:Nat},vs.length=ls.length->Parts vs (ls.mapIdx λ i l=>mks (j+i) l.length)=PM j vs (ls.map List.length)
  |[],[],_,_=>rfl
  |v::vs,l::ls,j,h=>by
    have ih:=parts_PM (vs:=vs) (ls:=ls) (j:=j+1) (by simpa using h);rw [List.mapIdx_cons]
    show Parts vs (ls.mapIdx λ i l=>mks (j+(i+1)) l.length)*Sl 1 v (mks (j+0) l.length).length (bys (mks (j+0) l.length))=PM (j+1) vs (ls.map List.length)*Sl 1 v l.length (bys (mks j l.length))
    rw [mks_length,Nat.add_zero,←ih]
    congr 2
    apply List.ext_getElem?
    intro i
    simp only [List.getElem?_mapIdx,show j+(i+1)=j+1+i by omega]
theorem GP_snoc:∀{vs gs:List Value} {ns:List Nat} {j:Nat} {v g:Value} {n:Nat} (_:vs.length=ns.length) (_:gs.length=ns.length),GP j (vs++[v]) (gs++[g]) (ns++[n])=GP j vs gs ns*Gr v n (bys (mks (j+ns.length) n)) g (n+70) (bys (mks (j+ns.length) (n+70)))
  |[],[],[],_,_,_,_,_,_=>rfl
  |[],_::_,[],_,_,_,_,_,h=>by simp at h
  |[],_::_,_::_,_,_,_,_,h,_=>by simp at h
  |[],[],_::_,_,_,_,_,h,_=>by simp at h
  |_::_,[],[],_,_,_,_,h,_=>by simp at h
  |_::_,[],_::_,_,_,_,_,_,h=>by simp at h
  |_::_,_::_,[],_,_,_,_,h,_=>by simp at h
  |u::vs,h::gs,x::ns,j,v,g,n,h1,h2=>by
    show GP (j+1) (vs++[v]) (gs++[g]) (ns++[n])*Gr u x _ h _ _=_
    rw [GP_snoc (by simpa using h1) (by simpa using h2)]
    show _=GP (j+1) vs gs ns*Gr u x (bys (mks j x)) h (x+70) (bys (mks j (x+70)))*_
    rw [star_swap,List.length_cons,show j+1+ns.length=j+(ns.length+1) by omega]
theorem GP_get:∀{vs gs:List Value} {ns:List Nat} {j i:Nat} (h1:vs.length=ns.length) (h2:gs.length=ns.length) (hi:i<ns.length),∃R,GP j vs gs ns=R*Gr (vs[i]'oqz) ns[i] (bys (mks (j+i) ns[i])) (gs[i]'oqz) (ns[i]+70) (bys (mks (j+i) (ns[i]+70)))
  |_,_,[],_,_,_,_,h=>by simp at h
  |[],_,_::_,_,_,h,_,_=>by simp at h
  |_::_,[],_::_,_,_,_,h,_=>by simp at h
  |v::vs,g::gs,n::ns,j,0,_,_,_=>⟨GP (j+1) vs gs ns,rfl⟩
  |v::vs,g::gs,n::ns,j,i+1,h1,h2,hi=>by
    obtain ⟨R,e⟩:=GP_get (vs:=vs) (gs:=gs) (ns:=ns) (j:=j+1) (i:=i) (by simpa using h1) (by simpa using h2) (by simpa using hi);refine ⟨R*Gr v n (bys (mks j n)) g (n+70) (bys (mks j (n+70))), ?_⟩
    show GP (j+1) vs gs ns*_=_
    rw [e,star_swap,show j+1+i=j+(i+1) by omega];rfl
theorem PM_at {vs:List Value}{ns:List Nat}{i:Nat}(h1:vs.length=ns.length)(hi:i<ns.length):PM i (vs.drop i) (ns.drop i)=PM (i+1) (vs.drop (i+1)) (ns.drop (i+1))*Sl 1 (vs[i]'oqz) ns[i] (bys (mks i ns[i])):=by
  rw [List.drop_eq_getElem_cons hi,List.drop_eq_getElem_cons (show i<vs.length by omega)];rfl
theorem GP_read {X:SP}{vs gs:List Value}{ns:List Nat}{i:Nat}(h1:vs.length=ns.length)(h2:gs.length=ns.length)(hi:i<ns.length){g:Gh}{w:World}(hs:sat g w (X*GP 0 vs gs ns)):
    ∃ai ci ag cg,vs[i]? =some (.slice ai ns[i] ci)/\ gs[i]? =some (.slice ag (ns[i]+70) cg)/\ Rs (X*GP 0 vs gs ns) ai (bys (mks i ns[i]))/\ Rs (X*GP 0 vs gs ns) ag (bys (mks i (ns[i]+70))):=by
  obtain ⟨R,e⟩:=GP_get (j:=0) h1 h2 hi;rw [e,←star_assoc,Nat.zero_add] at hs ⊢
  obtain ⟨ai,ci,ag,cg,e1,e2,_,_,_,_,h3,h4⟩:=gr_have hs;exact ⟨ai,ci,ag,cg,by rw [List.getElem?_eq_getElem oqz,e1],by rw [List.getElem?_eq_getElem oqz,e2],rs_rd h3,rs_rd h4⟩
theorem pm_mkL {ls:List (List Nat)}:pm mkL ls.length ls=ls.mapIdx λ i l=>mks (0+i) l.length:=by
  rw [pm_all]
  apply List.ext_getElem?
  intro i
  simp only [List.getElem?_mapIdx,Nat.zero_add];rfl
theorem parts_row {vs:List Value}{ls:List (List Nat)}{i:Nat}(h:vs.length=ls.length)(hi:i<ls.length):∃R,(∀A,A*Parts vs ls=A*R*Sl 1 (vs[i]'oqz) ls[i].length (bys ls[i]))/\∀A l,A*R*Sl 1 (vs[i]'oqz) l.length (bys l)=A*Parts vs (ls.set i l):=by
  obtain ⟨R,e1,e2⟩:=parts_get (vs:=vs) (ls:=ls) h hi;refine ⟨R,λ A=>by rw [e1,star_assoc],λ A l=> ?_⟩;have:=e2 (vs[i]'oqz) l;rw [set_getElem oqz] at this
  rw [this,star_assoc]
theorem gr_same' {v:Value}{n:Nat}{xs:List Value}{R:SP}:∀g w,sat g w (R*Sl 1 v n xs)->sat g w (R*Gr v n xs v n xs):=λ g w h=>gr_same h
attribute [local irreducible] Sl SlR pt ro Parts Gr
theorem mark_c {A:SP}{i k:Nat}(h:i<=1099511627776/\ k<=1099511627776:=by omega):
    Fn Tryz.prog 265 #[vn i,vn k] A (λ r B=>r= .int .u8 ((mk i k:Nat):Int)/\ A=B):=by
  refine fn_enterW func265 rfl ntmps265 (by simp) ?_;refine Zbz ?_;refine tv (by first|exact o_mulI rfl rfl oqz|exact o_mul rfl rfl) ?_;refine tlm ?_;refine tv (by first|exact o_mulI rfl rfl oqz|exact o_mul rfl rfl) ?_;refine tv adqz ?_;refine tv adqz ?_;refine tl_env (d:=10) (v:=(vn (i*31+k*7+1))) (rfl) ?_;refine tv (by first|exact o_conv8 underlying3 underlying5 rfl|exact o_conv underlying3 underlying5 rfl) ?_;refine Zd ?_;exact ⟨.int .u8 (((i*31+k*7+1)%256:Nat):Int),A,res1 rfl rfl,λ _ _ h=>h,rfl,rfl⟩
theorem Zcu {p r:Prop}(k:r)(h:Kq r->p:=by intro k;refine tv (o_ixP1 underlying41 sz57 rfl rfl sq1z sq0z) ?_;refine tv (o_ldP p57 rfl sq2z (by first|assumption|exact bys_at oqz|exact ints_at oqz|exact wds_at oqz|exact bos_at oqz|rfl)) ?_;exact k.o):p:=h ⟨k⟩
theorem Zkm {p r:Prop}(k:r)(h:Kq r->p:=by intro k;refine tm 6 rfl kqz rfl (o_move wqz) ?_;refine th_one (i:=7) kqz ?_;exact k.o):p:=h ⟨k⟩
theorem Zd4 {p r:Prop}(k:r)(h:Kq r->p:=by intro k;refine ql_v rfl (o_ixP1 underlying41 sz57 rfl rfl sq1z sq0z) ?_;refine ql_v rfl (o_ldP p57 rfl sq2z (by first|assumption|exact bys_at oqz|exact ints_at oqz|exact wds_at oqz|exact bos_at oqz|rfl)) ?_;exact k.o):p:=h ⟨k⟩
theorem Zhg {p r:Prop}(k:r)(h:Kq r->p:=by intro k;refine ql_v rfl (o_ixP1 underlying57 sz5 rfl rfl sq1z sq0z) ?_;refine ql_v rfl (o_ldP p5 rfl sq2z (by first|assumption|exact bys_at oqz|exact ints_at oqz|exact wds_at oqz|exact bos_at oqz|rfl)) ?_;exact k.o):p:=h ⟨k⟩
theorem Apart_c {F:SP}{a:Option Addr}{m c:Nat}{vs:List Value}(ls:List (List Nat))(hm:ls.length=m)(hl:m<=1048576)(hls:∀l∈ls,l.length<=137438953472):
    Fn Tryz.prog 227 #[.slice a m c] (F*Parts vs ls*Sl 1 (.slice a m c) m vs) (λ r B=>r= .bool true/\ B=F):=by
  have hE:= @fn_enterW Tryz.prog 227 Tryz.f227 _ [.slice a m c] (F*Parts vs ls*Sl 1 (.slice a m c) m vs) (λ r B=>r= .bool true/\ B=F) _ func227 rfl ntmps227 (by simp);refine hE ?_;clear hE;refine tc_have (λ _ _ h=>parts_len h.left) λ hvl=> ?_
  rw [star_swap]
  refine Zky ?_;refine tc_loop (λ kk ρ BB=>∃ (i:Nat),(i<=m)/\ kk=m-i/\ ρ 3=(vn i)/\ ρ 0= .slice a m c/\ BB=F*Sl 1 (.slice a m c) m vs*Parts vs (pm mkL i ls)) (m:=m-(0)) ?_ ?_
  . exact ⟨0,by omega,rfl,rfl,rfl,by rw [pm_zero]⟩
  intro k ρ B hI;obtain ⟨i,hp0,hkk1,hE3,hE0,rfl⟩:=hI;refine te 3 hE3 ?_;refine te 0 hE0 ?_;refine Zed ?_;refine Zgm ?_;refine tc_cond rfl (λ h=> ?_) (sbq ?_)
  . have hi:i<ls.length:=(by simp at h;omega);have hip:i<(pm mkL i ls).length:=(by rw [pm_length];exact hi);obtain ⟨R,hR1,hR2⟩:=parts_row (vs:=vs) (ls:=pm mkL i ls) (i:=i) (by rw [pm_length];exact hvl) hip;rw [pm_at mkL hi] at hR1
    have hlsi:=hls _ (List.getElem_mem hi);refine tc_eq (hR1 _) ?_;refine tc_have (λ _ _ h=>sl_have h) λ ⟨ai,ci,hvi,hci,_,_⟩=> ?_
    rw [hvi]
    have hvi2:vs[i]? =some (.slice ai ls[i].length ci):=(by rw [List.getElem?_eq_getElem oqz,hvi]);refine Zbe ?_;refine Zb3 ?_;refine tc_loop (λ kk ρ BB=>∃ (k:Nat),(k<=ls[i].length)/\ kk=ls[i].length-k/\ ρ 4=(vn k)/\ ρ 0= .slice a m c/\ ρ 3=(vn i)/\ BB=F*Sl 1 (.slice a m c) m vs*R*Sl 1 (.slice ai ls[i].length ci) ls[i].length (bys (pm (λ k _=>mk i k) k ls[i]))) (m:=ls[i].length-(0)) ?_ ?_
    . exact ⟨0,by omega,rfl,rfl,rfl,rfl,by rw [pm_zero]⟩
    intro k ρ B hI;obtain ⟨k,hp0,hkk2,hE4,hE0,hE3,rfl⟩:=hI;refine te 4 hE4 ?_;refine te 0 hE0 ?_;refine te 3 hE3 ?_;refine Ze ?_;refine Z2 ?_;refine Zcu ?_;refine Zhz ?_;refine tc_cond rfl (λ h=> ?_) (sbq ?_)
    . have hk:k<ls[i].length:=(by simp at h;omega);refine tc_have (λ g w h=>nn_sl (by decide) g w h (show 0<ls[i].length by omega)) λ ⟨bi,oi,ei⟩=> ?_
      subst ei;refine Zbe ?_;refine tc_regh (S:=F*Sl 1 (.slice a m c) m vs*R) mo drqz ?_
      show TH _ _ _ _ _ 10 (Array.replicate 10 false) _ _
      refine Zcd ?_;refine tm 2 rfl kqz rfl (o_ixP1 underlying41 sz57 rfl rfl sq1z sq0z) ?_;refine tm 3 rfl kqz rfl (o_ldP p57 rfl sq2z (by first|assumption|exact bys_at oqz|exact ints_at oqz|exact wds_at oqz|exact bos_at oqz|rfl)) ?_;refine Zc1 ?_;refine Zkm ?_;refine oh_c rfl rfl rfl (o_call bd265 rfl (mark_c)) ?_;refine Zt ?_;refine tm 8 rfl kqz rfl (o_ixP1 underlying57 sz5 rfl rfl sq1z sq0z) ?_;refine th_one (i:=9) kqz ?_;refine oh_u rfl rfl rfl (o_stP sz5 rfl rfl rfl ctqz oqz (by first|exact bys_set _ _ _|exact ints_set _ _ _|exact wds_set' _ _ _|exact bos_set _ _ _|rfl)) drqz ?_;refine Zcg ?_;refine Zbv ?_;exact ⟨_,by omega,k+1,by omega,rfl,rfl,rfl,rfl,by rw [←pm_set (λ k _=>mk i k) hk]⟩
    intro h;refine Zdd ?_;obtain rfl:k=ls[i].length:=by omega
    refine tc_eq (show _=F*Sl 1 (.slice a m c) m vs*Parts vs (pm mkL (i+1) ls) by rw [←pm_set mkL hi,mks_pm];have:=hR2 (F*Sl 1 (.slice a m c) m vs) (mks i ls[i].length);rw [hvi,mks_length] at this;exact this) ?_;refine Zbv ?_;exact ⟨_,by omega,i+1,by omega,rfl,rfl,rfl,rfl⟩
  intro h;refine Zf ?_;refine tc_seq ?_;obtain rfl:i=ls.length:=by omega
  rw [pm_mkL,parts_PM hvl]
  refine tc_reg ?_;refine Zhk ?_;refine tc_pre (λ _ _ h=>sl_nil (k:=1) h) ?_;refine tc_eq (show _=F*Sl 1 (.slice a m c) m vs*GP 0 [] [] []*PM 0 vs (ls.map List.length)*Sl 1 (.slice none 0 0) 0 [] by rw [show GP 0 [] [] []=emp from rfl,star_emp]) ?_;refine tc_loop (λ kk ρ BB=>∃ (i:Nat) (a5:Option Addr) (c5:Nat) (gs:List Value),(i<=m)/\ (gs.length=i)/\ kk=m-i/\ ρ 5= .slice a5 i c5/\ ρ 6=(vn i)/\ ρ 0= .slice a m c/\ BB=F*Sl 1 (.slice a m c) m vs*GP 0 (vs.take i) gs ((ls.map List.length).take i)*PM i (vs.drop i) ((ls.map List.length).drop i)*Sl 1 (.slice a5 i c5) i gs) (m:=m-(0)) ?_ ?_
  . exact ⟨0,none,0,[],by omega,rfl,rfl,rfl,rfl,rfl,rfl⟩
  intro k ρ B hI;obtain ⟨i,a5,c5,gs,hp0,hp1,hkk3,hE5,hE6,hE0,rfl⟩:=hI;refine te 5 hE5 ?_;refine te 6 hE6 ?_;refine te 0 hE0 ?_;refine Zed ?_;refine Zgm ?_;refine tc_cond rfl (λ h=> ?_) (sbq ?_)
  . have hi:i<ls.length:=(by simp at h;omega);have hin:i<(ls.map List.length).length:=(by simpa using hi);have hpm:=PM_at (vs:=vs) (ns:=ls.map List.length) (by simpa using hvl) hin
    simp only [List.getElem_map] at hpm
    have hlsi:=hls _ (List.getElem_mem hi);refine tc_eq (show _=F*Sl 1 (.slice a m c) m vs*GP 0 (vs.take i) gs ((ls.map List.length).take i)*PM (i+1) (vs.drop (i+1)) ((ls.map List.length).drop (i+1))*Sl 1 (.slice a5 i c5) i gs*Sl 1 vs[i] ls[i].length (bys (mks i ls[i].length)) by rw [hpm];ac_rfl) ?_;refine tc_have (λ _ _ h=>sl_have h) λ ⟨ai,ci,hvi,hci,_,_⟩=> ?_
    rw [hvi]
    have hvi2:vs[i]? =some (.slice ai ls[i].length ci):=(by rw [List.getElem?_eq_getElem oqz,hvi]);refine tc_pre gr_same' ?_;refine Zlg ?_;refine Zcu ?_;refine Zhk ?_;refine tc_loop (λ kk ρ BB=>∃ (k:Nat) (a7:Option Addr) (c7:Nat),(k<=70)/\ kk=70-k/\ ρ 7= .slice a7 (ls[i].length+k) c7/\ ρ 8=(vn k)/\ ρ 0= .slice a m c/\ ρ 5= .slice a5 i c5/\ ρ 6=(vn i)/\ BB=F*Sl 1 (.slice a m c) m vs*GP 0 (vs.take i) gs ((ls.map List.length).take i)*PM (i+1) (vs.drop (i+1)) ((ls.map List.length).drop (i+1))*Sl 1 (.slice a5 i c5) i gs*Gr (.slice ai ls[i].length ci) ls[i].length (bys (mks i ls[i].length)) (.slice a7 (ls[i].length+k) c7) (ls[i].length+k) (bys (mks i (ls[i].length+k)))) (m:=70-(0)) ?_ ?_
    . exact ⟨0,ai,ci,by omega,rfl,rfl,rfl,rfl,rfl,rfl,rfl⟩
    intro k ρ B hI;obtain ⟨k,a7,c7,hp0,hkk4,hE7,hE8,hE0,hE5,hE6,rfl⟩:=hI;refine te 7 hE7 ?_;refine te 8 hE8 ?_;refine te 0 hE0 ?_;refine te 5 hE5 ?_;refine te 6 hE6 ?_;refine Zlb ?_;refine tc_cond rfl (sbq ?_) (sbq ?_)
    . intro h;refine Zbe ?_;refine Zh2 ?_;refine tlm ?_;refine Zcu ?_;refine Zez ?_;refine tv adqz ?_;refine tl_env (d:=57) (v:=(vn (ls[i].length+k))) (rfl) ?_;refine tl_c rfl (o_call bd265 rfl (mark_c)) ?_;rintro _ _ ⟨rfl,rfl⟩;refine tl_x rfl (o_buildSlice1 underlying57 sz5 z5 wqz rfl) ?_;rintro _ _ ⟨b59,rfl,rfl⟩;refine tl_x rfl (o_apGr underlying57 underlying57 sz5 by5 z5 rfl (by decide) rfl rfl rfl ctqz rfl rfl oqz (by rw [bys_sn,←mks_succ])) ?_;rintro _ _ ⟨a60,c60,rfl,hc60,rfl⟩;refine Zhr ?_;exact ⟨_,by omega,k+1,_,_,by omega,rfl,rfl,rfl,rfl,rfl,rfl,rfl⟩
    intro h;refine Zf ?_;obtain rfl:k=70:=by omega
    refine Zfn ?_;refine tl_x rfl (o_buildSlice1 underlying41 sz57 z57 wqz rfl) ?_;rintro _ _ ⟨b63,rfl,rfl⟩;refine tl_x rfl (o_apB underlying41 underlying41 sz57 by57 z57 rfl (by decide) (by decide) rfl rfl rfl ctqz rfl rfl oqz rfl) ?_;rintro _ _ ⟨a64,c64,rfl,hc64,rfl⟩;refine Zdp ?_;refine tc_eq (show _=F*Sl 1 (.slice a m c) m vs*GP 0 (vs.take (i+1)) (gs++[.slice a7 (ls[i].length+70) c7]) ((ls.map List.length).take (i+1))*PM (i+1) (vs.drop (i+1)) ((ls.map List.length).drop (i+1))*Sl 1 (.slice a64 (i+1) c64) (i+1) (gs++[.slice a7 (ls[i].length+70) c7]) by rw [List.take_succ_eq_append_getElem (show i<vs.length by omega),List.take_succ_eq_append_getElem hin,GP_snoc (by simp;omega) (by simp;omega)];simp only [List.length_take,List.length_map,Nat.min_eq_left (Nat.le_of_lt hi),Nat.zero_add,List.getElem_map,hvi];ac_rfl) ?_;refine Zbv ?_;exact ⟨_,by omega,i+1,_,_,_,by omega,by simp [hp1],rfl,rfl,rfl,rfl,rfl⟩
  intro h;refine Zf ?_;refine Zdw ?_;obtain rfl:i=ls.length:=by omega
  refine tc_eq (show _=F*Sl 1 (.slice a m c) m vs*GP 0 vs gs (ls.map List.length)*Sl 1 (.slice a5 ls.length c5) ls.length gs by rw [List.take_of_length_le oqz,List.take_of_length_le (by simp),List.drop_of_length_le oqz,List.drop_of_length_le (by simp)];show _*emp*_=_;rw [star_emp]) ?_;refine tc_reg ?_;refine Zii ?_;refine tc_loop (λ kk ρ BB=>∃ (i:Nat),(i<=ls.length)/\ kk=ls.length-i/\ ρ 9=(vn i)/\ ρ 0= .slice a m c/\ ρ 5= .slice a5 ls.length c5/\ BB=F*Sl 1 (.slice a m c) m vs*GP 0 vs gs (ls.map List.length)*Sl 1 (.slice a5 ls.length c5) ls.length gs) (m:=ls.length-(0)) ?_ ?_
  . exact ⟨0,by omega,rfl,rfl,rfl,rfl,rfl⟩
  intro k ρ B hI;obtain ⟨i,hp0,hkk5,hE9,hE0,hE5,rfl⟩:=hI;refine te 9 hE9 ?_;refine te 0 hE0 ?_;refine te 5 hE5 ?_;refine Zed ?_;refine Zgm ?_;refine tc_cond rfl (λ h=> ?_) (sbq ?_)
  . have hi:i<ls.length:=(by simp at h;omega);have hin:i<(ls.map List.length).length:=(by simpa using hi);have hv1:vs.length=(ls.map List.length).length:=(by simpa using hvl);have hg1:gs.length=(ls.map List.length).length:=(by simp;omega);refine tc_have (λ _ _ h=>GP_read (X:=F*Sl 1 (.slice a m c) m vs) hv1 hg1 hin h.left) λ ⟨ai,ci,ag,cg,hvi,hgi,hr1,hr2⟩=> ?_
    simp only [List.getElem_map] at hvi hgi hr1 hr2
    have hlsi:=hls _ (List.getElem_mem hi);have hbl1:(bys (mks i ls[i].length)).length=ls[i].length:=(by rw [bys_length,mks_length]);have hbl2:(bys (mks i (ls[i].length+70))).length=ls[i].length+70:=(by rw [bys_length,mks_length]);refine Zbe ?_;refine Zb3 ?_;refine tc_loop (λ kk ρ BB=>∃ (k:Nat),(k<=ls[i].length+70)/\ kk=ls[i].length+70-k/\ ρ 10=(vn k)/\ ρ 0= .slice a m c/\ ρ 5= .slice a5 ls.length c5/\ ρ 9=(vn i)/\ BB=F*Sl 1 (.slice a m c) m vs*GP 0 vs gs (ls.map List.length)*Sl 1 (.slice a5 ls.length c5) ls.length gs) (m:=ls[i].length+70-(0)) ?_ ?_
    . exact ⟨0,by omega,rfl,rfl,rfl,rfl,rfl,rfl⟩
    intro k ρ B hI;obtain ⟨k,hp0,hkk6,hE10,hE0,hE5,hE9,rfl⟩:=hI;refine te 10 hE10 ?_;refine te 0 hE0 ?_;refine te 5 hE5 ?_;refine te 9 hE9 ?_;refine Ze ?_;refine Z2 ?_;refine Zcu ?_;refine Zhz ?_;refine tc_cond rfl (λ h=> ?_) (sbq ?_)
    . have hk:k<ls[i].length+70:=(by simp at h;omega);have hk1:=mks_at (i:=i) hk;refine Zbe ?_;refine Zfr ?_;refine Zbt ?_;refine Zd4 ?_;refine ql_v rfl (o_move wqz) ?_;refine Zhg ?_;refine Zbt ?_;refine ql_c rfl (λ w=>exec_call bd265 rfl) (mark_c) ?_;refine ql_v rfl (o_nei rfl rfl) ?_;refine ql_v rfl (o_move wqz) ?_;refine ql_bool (d:=91) rfl dbq (sbq ?_);intro h;refine Zbt ?_;refine ql_v rfl (o_move wqz) ?_;refine Zd4 ?_;refine ql_v rfl (o_len underlying57 rfl) ?_;refine ql_v rfl (o_lss rfl rfl) ?_;refine ql_v rfl (o_move wqz) ?_;refine ql_bool (d:=99) rfl (λ h=> ?_) (sbq ?_)
      . have hk2:k<ls[i].length:=(by simp at h;omega);have hk3:=mks_at (i:=i) hk2;refine Zbt ?_;refine Zd4 ?_;refine ql_v rfl (o_move wqz) ?_;refine Zhg ?_;refine Zbt ?_;refine ql_c rfl (λ w=>exec_call bd265 rfl) (mark_c) ?_;refine ql_v rfl (o_nei rfl rfl) ?_;refine ql_v rfl (o_pick_t rfl wqz) ?_;refine ql_v rfl (o_pick_f rfl wqz) ?_;refine Zec ?_;refine tc_cond rfl dbq (sbq ?_);intro h;refine Zfl ?_;exact ⟨_,by omega,k+1,by omega,rfl,rfl,rfl,rfl,rfl,rfl⟩
      intro h;refine Zie ?_;refine Zv ?_;refine ql_skip rfl ?_;refine ql_v rfl (o_pick_f rfl wqz) ?_;refine ql_v rfl (o_pick_f rfl wqz) ?_;refine Zec ?_;refine tc_cond_f rfl ?_;refine Zfl ?_;exact ⟨_,by omega,k+1,by omega,rfl,rfl,rfl,rfl,rfl,rfl⟩
    intro h;refine Zdd ?_;refine Zbv ?_;exact ⟨_,by omega,i+1,by omega,rfl,rfl,rfl,rfl,rfl⟩
  intro h;refine Zgf ?_;exact ⟨.bool true,F,res1 rfl rfl,Dr.sat drqz,rfl,rfl⟩
end Go.Vl

namespace Go.Vl
open Go Go.Proofs Go.Proofs.Tryz
def rdA (s:DevS):List Int×Int:=if s.off=true then ([0,0,0,0,0],5) else if 578<=s.ls.length then rdT (s.ls.length*64) (imgS s) else ([0,0,0,0,0],100)
def rootA (s:DevS):Nat×Int:=if (rdA s).2≠0 then (0,(rdA s).2) else wordP 64 s
def Rdb {α:Type}(P:Program)(W:World)(t:TypeId)(r:List Value->α->Prop):Prop:=
  ∀ (H:Type) (enc:TypeId×Value->H) (spare:Nat->Bool) (held:Bool) (fuel:Nat) (cs:List Value) (d:DataW H) (pl:List MemPlace),
    DataW.trod enc P W 0 spare held fuel t cs=some (d,pl)->(∀n∈d.weights P t,n<=reachBytes)->∃x,r cs x
theorem Rdb.mono {α β:Type}{P:Program}{W:World}{t:TypeId}{r:List Value->α->Prop}{q:List Value->β->Prop}(h:Rdb P W t r)(k:∀cs x,r cs x->∃y,q cs y):Rdb P W t q:=
  λ H enc sp hd fu cs d pl h1 h2=>by obtain ⟨x,hx⟩:=h H enc sp hd fu cs d pl h1 h2;exact k cs x hx
def PInt (k:IntKind)(cs:List Value)(n:Int):Prop:=cs=[.int k n]/\ (Lit.int k n).wf=true
def PBool (cs:List Value)(b:Bool):Prop:=cs=[.bool b]
def PSl {α:Type}(A:SP)(k b:Nat)(r:List Value->α->Prop)(cs:List Value)(xs:List α):Prop:=
  ∃ (a:Option Addr) (cap:Nat) (Cs:List (List Value)),cs=[.slice a xs.length cap]/\ xs.length<=cap/\ xs.length*b<=reachBytes/\ Cs.length=xs.length/\ (∀i (h:i<xs.length) (h':i<Cs.length),Cs[i].length=k/\ r Cs[i] xs[i])/\ Rs A a Cs.flatten
def PBys (A:SP)(cs:List Value)(xs:List Nat):Prop:=∃a cap,cs=[.slice a xs.length cap]/\ xs.length<=cap/\ xs.length<=140737488351232/\ Rs A a (bys xs)/\∀x∈xs,x<256
def PInts (A:SP)(cs:List Value)(xs:List Int):Prop:=∃a cap,cs=[.slice a xs.length cap]/\ xs.length<=cap/\ xs.length<=17592186043904/\ Rs A a (ints xs)/\∀x∈xs,-9223372036854775808<=x/\ x<=9223372036854775807
abbrev ub {H:Type}(d:DataW H):Nat:=Go.Proofs.YtpjjmbmmfelooaaGreat.Rows.uptoBulk d
abbrev ubs {H:Type}(l:List (DataW H)):Nat:=Go.Proofs.YtpjjmbmmfelooaaGreat.Rows.uptoBulkAll l
def Rdu {α:Type}(P:Program)(W:World)(t:TypeId)(r:List Value->α->Prop)(sz:α->Nat):Prop:=
  ∀ (H:Type) (enc:TypeId×Value->H) (spare:Nat->Bool) (held:Bool) (fuel:Nat) (cs:List Value) (d:DataW H) (pl:List MemPlace),
    DataW.trod enc P W 0 spare held fuel t cs=some (d,pl)->∃x,r cs x/\ sz x<=ub d
theorem Rdu.mono {α β:Type}{P:Program}{W:World}{t:TypeId}{r:List Value->α->Prop}{s:α->Nat}{q:List Value->β->Prop}{z:β->Nat}(h:Rdu P W t r s)(k:∀cs x,r cs x->∃y,q cs y/\ z y<=s x):Rdu P W t q z:=
  λ H enc sp hd fu cs d pl h1=>by
    obtain ⟨x,hx,hs⟩:=h H enc sp hd fu cs d pl h1;obtain ⟨y,hy,hz⟩:=k cs x hx;exact ⟨y,hy,by omega⟩
def PSu {α:Type}(A:SP)(k:Nat)(r:List Value->α->Prop)(cs:List Value)(xs:List α):Prop:=
  ∃ (a:Option Addr) (cap:Nat) (Cs:List (List Value)),cs=[.slice a xs.length cap]/\ xs.length<=cap/\ Cs.length=xs.length/\ (∀i (h:i<xs.length) (h':i<Cs.length),Cs[i].length=k/\ r Cs[i] xs[i])/\ Rs A a Cs.flatten
def szL {α:Type}(sz:α->Nat)(xs:List α):Nat:=(xs.map sz).sum+1
def PByU (A:SP)(cs:List Value)(xs:List Nat):Prop:=∃a cap,cs=[.slice a xs.length cap]/\ xs.length<=cap/\ Rs A a (bys xs)/\∀x∈xs,x<256
def PInU (A:SP)(cs:List Value)(xs:List Int):Prop:=∃a cap,cs=[.slice a xs.length cap]/\ xs.length<=cap/\ Rs A a (ints xs)/\∀x∈xs,-9223372036854775808<=x/\ x<=9223372036854775807
structure Op9 where
  k:Int
  q:Int
  n:Int
  a:Option Addr
  c:Nat
  b:List Nat
  v:Nat
  ka:Option Addr
  kc:Nat
  kp:List Int
def Op9.cells (t:Op9):List Value:=[.int .i64 t.k,.int .i64 t.q,.int .i64 t.n,.slice t.a t.b.length t.c,.int .u64 (t.v:Nat),.slice t.ka t.kp.length t.kc]
structure Op9W (A:SP) (t:Op9):Prop where
  cap:t.b.length<=t.c
  rs:Rs A t.a (bys t.b)
  byt:∀x∈t.b,x<256
  v:t.v<18446744073709551616
  kcap:t.kp.length<=t.kc
  krs:Rs A t.ka (ints t.kp)
  kb:∀x∈t.kp,-9223372036854775808<=x/\ x<=9223372036854775807
  q: -9223372036854775808<=t.q/\ t.q<=9223372036854775807
  n: -9223372036854775808<=t.n/\ t.n<=9223372036854775807
def Op9.sz (t:Op9):Nat:=t.b.length+t.kp.length+1
def ocs (l:List Op9):List Value:=l.flatMap Op9.cells
def POps (A:SP)(cs:List Value)(ops:List Op9):Prop:=∃a cap,cs=[.slice a ops.length cap]/\ ops.length<=cap/\ Rs A a (ocs ops)/\∀t∈ops,Op9W A t
def rawS (t:Op9)(s:DevS):DevS:=if t.k=7 then (sto ((wi t.q 256:Nat):Int) (t.b.take (256-wi t.q 256)) s).2 else if t.k=8 then (fl1 ((wi t.q 256:Nat):Int) s).2 else if t.k=9 then (fe s).2 else s
theorem room_le {a b:Nat}{s:DevS}(h:Room a s)(hab:b<=a):Room b s:=λ l hl=>Nat.le_trans (Nat.add_le_add_left hab _) (h l hl)
def rawL (l:List Op9)(s:DevS):DevS:=l.foldl (λ s t=>rawS t s) s
def rawB (at_ m:Nat)(t:Op9)(s:DevS):DevS:=if t.k=7/\ wi t.q 256<at_+m/\ at_<wi t.q 256+t.b.length then s else rawS t s
def rawLB (at_ m:Nat)(l:List Op9)(s:DevS):DevS:=l.foldl (λ s t=>rawB at_ m t s) s
theorem cut_none {a:Option Addr}{c:Nat}:cutAddr a c 0 1=a:=by
  unfold cutAddr
  split
  . rfl
  cases a<;>simp [Addr.add]
attribute [local irreducible] Sl pt ro Dev imgS
theorem Within_c {A:SP}{i n:Int}(hn:0<n/\ n<=9223372036854775807:=by omega):
    Fn Tryz.prog 30 #[.int .i64 i,.int .i64 n] A (λ r B=>r= .int .i64 (i%n)/\ A=B):=by
  refine fn_enterW func30 rfl ntmps30 (by simp) ?_;have hb:=tmod_lt' (a:=i) hn.1;refine Zbz ?_;refine tlm ?_;refine tv (o_rem (a:=i) (b:=n) rfl rfl oqz) ?_;refine Zd1 ?_;refine Zn ?_;refine tc_cond rfl (sbq ?_) (sbq ?_)
  . intro h;refine Zfn ?_;refine tv (o_addI (a:=i.tmod n) (b:=n) rfl rfl oqz) ?_;refine Zep ?_;refine Zd ?_;exact ⟨.int .i64 (i.tmod n+n),A,res1 rfl rfl,λ _ _ h=>h,by rw [within_neg hn.1 h],rfl⟩
  intro h;refine Zc6 ?_;refine Zd ?_;exact ⟨.int .i64 (i.tmod n),A,res1 rfl rfl,λ _ _ h=>h,by rw [within_pos hn.1 h],rfl⟩
end Go.Vl

namespace Go.Vl
open Go Go.Proofs Go.Proofs.Tryz
theorem done_room {r:Nat}{s:DevS}(hw:WfD s)(h:Room r s):Room r (doneS s):=by
  rcases done_loss (X:=λ _ _=>True) hw (λ _ _ _ _ _=>trivial) with ⟨_,h2,_⟩|⟨_,h1,h2,h3,_,h5⟩
  . unfold Room;rw [h2];exact h
  intro l hl;have hp:=hw.pos;have h0:=h _ (List.getElem_mem hp);have h4:=List.length_pos_iff.2 (hw.line _ (List.getElem_mem hp)).ne;have:=h3 l hl
  omega
theorem storeF_room:∀ (m:Nat) {p r:Nat} {b:List Nat} {s:DevS},b.length=m->WfD s->(∀x∈b,x<256)->Room (r+m) s->Room r (storeF b.length p b s).2/\ WfD (storeF b.length p b s).2:=by
  intro m
  induction m using Nat.strongRecOn with
  |_ m ih=>
    intro p r b s hm hw hb hroom
    by_cases h0:b=[]
    . subst h0;rw [storeF_nil]
      exact ⟨room_le hroom oqz,hw⟩
    have hpos:0<b.length:=List.length_pos_iff.2 h0;have hr1:Room 1 s:=room_le hroom oqz;have hwL:=layS_wf (at_:=p-p%8) hw hr1 (stW_nm (p:=p) (s:=s) hb)
    have hroom2:Room (r+(m-min m (8-p%8))) (layS (p-p%8) (nm (stW p b s)) s):=λ l hl=>by
      have:=onLine_room (r:=r+m-1) (f:=layL ((p-p%8)%64/8) (nm (stW p b s))) (i:=(p-p%8)/64) (λ l hl=>by have:=hroom l hl;omega) (λ l=>by simp [layL]) l hl
      omega
    have hk:(b.drop (8-p%8)).length=m-min m (8-p%8):=(by rw [List.length_drop];omega);rw [storeF_step h0]
    split
    . exact ⟨room_le (done_room hwL hroom2) oqz,doneS_wf hwL⟩
    exact ih (m-min m (8-p%8)) oqz hk (doneS_wf hwL) (λ x hx=>hb x (List.mem_of_mem_drop hx)) (done_room hwL hroom2)
theorem fence_wf {s:DevS}(hw:WfD s):WfD (fenceS s):=⟨by simp [fenceS];exact hw.pos,by simp [fenceS];exact hw.top,λ l hl=>by
  simp only [fenceS,List.mem_map] at hl
  obtain ⟨l0,h0,rfl⟩:=hl
  exact fenceL_wf (hw.line l0 h0),hw.arms,hw.after,hw.keeps⟩
theorem flF_room {r:Nat}:∀ (k q:Nat) (s:DevS),WfD s->Room r s->Room r (flF k q s).2/\ WfD (flF k q s).2
  |0,q,s,hw,h=>by
    rw [flF_zero]
    unfold fe
    split
    . exact ⟨h,hw⟩
    refine ⟨done_room (fence_wf hw) λ l hl=> ?_,doneS_wf (fence_wf hw)⟩
    simp only [fenceS,List.mem_map] at hl
    obtain ⟨l0,h0,rfl⟩:=hl;have h3:(fenceL l0).st.length<=l0.st.length:=(by unfold fenceL;split<;>simp);have:=h l0 h0
    omega
  |k+1,q,s,hw,h=>by
    have hk:Room r (fl1 ((q*64:Nat):Int) s).2/\ WfD (fl1 ((q*64:Nat):Int) s).2:=by
      unfold fl1
      split
      . exact ⟨h,hw⟩
      refine ⟨done_room (flushS_wf hw) λ l hl=> ?_,doneS_wf (flushS_wf hw)⟩
      unfold flushS onLine at hl
      split at hl
      . rcases List.mem_or_eq_of_mem_set hl with h1|h1
        . exact h l h1
        rw [h1]
        rename_i l0 e
        exact h l0 (List.mem_of_getElem? e)
      exact h l hl
    show Room r (if _ then _ else _:Int×DevS).2/\ WfD (if _ then _ else _:Int×DevS).2
    split
    . exact hk
    exact flF_room k (q+1) _ hk.2 hk.1
def fmtF:List (Nat×List Nat)->DevS->Int×DevS
  |[],s=>(0,s)
  |t::l,s=>if (bytesP (t.1:Int) t.2 s).1≠0 then bytesP (t.1:Int) t.2 s else fmtF l (bytesP (t.1:Int) t.2 s).2
def fst4 (n:Nat):List (Nat×List Nat):=[(0,(List.replicate 64 0)),(64,(List.replicate 64 0)),(128,(List.replicate 64 0)),(0,sbB [n,128,32768,32896,(n-32896)/256,0])]
def stC (l:List (Nat×List Nat)):List Value:=l.flatMap λ t=> .int .i64 (t.1:Int)::bys t.2
def fmA (n:Nat)(s:DevS):List Int×Int:=if (fmtF (fst4 n) s).1≠0 then ([0,0,0,0,0],(fmtF (fst4 n) s).1) else ([(n:Int),((128:Nat):Int),((32768:Nat):Int),((32896:Nat):Int),(((n-32896)/256:Nat):Int)],0)
def zz:List Nat:=List.replicate 64 0
def LostI (n:Nat)(xs I:List Nat):Prop:=I.length=n/\ I.drop 192=xs.drop 192/\ (I.take 192=xs.take 192∨I.take 64≠sbB [n,128,32768,32896,(n-32896)/256,0]∨(I.drop 64).take 128=List.replicate 128 0)
def DoneI (n:Nat)(xs I:List Nat):Prop:=I.length=n/\ I.drop 192=xs.drop 192/\ I.take 64=sbB [n,128,32768,32896,(n-32896)/256,0]/\ (I.drop 64).take 128=List.replicate 128 0
def PSteps (A:SP)(cs:List Value)(ss:List StepC):Prop:=∃a cap,cs=[.slice a ss.length cap]/\ ss.length<=cap/\ ss.length<=1353245080300/\ Rs A a (scs ss)/\∀t∈ss,t.v<18446744073709551616
structure ImC where
  sz:Int
  fl:Int
  ha:Option Addr
  hcp:Nat
  hd:List Nat
  rt:Bool
  tn:Int
def ImC.cells (t:ImC):List Value:=[.int .i64 t.sz,.int .u8 t.fl,.slice t.ha t.hd.length t.hcp,.bool t.rt,.int .i64 t.tn]
def PImg (A:SP)(cs:List Value)(t:ImC):Prop:=cs=t.cells/\ Rs A t.ha (bys t.hd)/\ (∀x∈t.hd,x<256)/\ t.hd.length<=t.hcp/\ t.hd.length<=140737488351232/\ (0<=t.fl/\ t.fl<256)/\ (-9223372036854775808<=t.tn/\ t.tn<=9223372036854775807)/\ (-9223372036854775808<=t.sz/\ t.sz<=9223372036854775807)
theorem parts_nil:Parts [] []=emp:=rfl
theorem ctS_out {s:DevS}{q:Nat}(h:¬q<s.ls.length):ctS q s=[]:=by
  unfold ctS
  have:s.ls.getD q ⟨[],0⟩=⟨[],0⟩:=(by simp [List.getD,List.getElem?_eq_none (show s.ls.length<=q by omega)]);rw [this];rfl
structure RwF (A:SP) (a:Option Addr) (vs:List Value) (ls:List (List Nat)):Prop where
  len:vs.length=ls.length
  rd:Rs A a vs
  row:∀i (h:i<ls.length),∃b c,vs[i]? =some (.slice b ls[i].length c)/\ Rs A b (bys ls[i])
theorem RwF.left {A X:SP}{a:Option Addr}{vs:List Value}{ls:List (List Nat)}(h:RwF A a vs ls):RwF (A*X) a vs ls:=⟨h.len,h.rd.left,λ i hi=>let ⟨b,c,e,hr⟩:=h.row i hi;⟨b,c,e,hr.left⟩⟩
theorem rwF_parts {F:SP}{a:Option Addr}{m c:Nat}{vs:List Value}{ls:List (List Nat)}{g:Gh}{w:World}(h:sat g w (F*Parts vs ls*Sl 1 (.slice a m c) m vs)):RwF (F*Parts vs ls*Sl 1 (.slice a m c) m vs) a vs ls:=by
  have hl:=parts_len h.left;refine ⟨hl,rs_sl,λ i hi=> ?_⟩;obtain ⟨R,e1,_⟩:=parts_row hl hi;have e:F*Parts vs ls*Sl 1 (.slice a m c) m vs=F*R*Sl 1 (.slice a m c) m vs*Sl 1 (vs[i]'oqz) ls[i].length (bys ls[i]):=(by rw [e1,star_swap]);obtain ⟨b,cb,e2,_,_,e5⟩:=sl_have' e h;exact ⟨b,cb,by rw [List.getElem?_eq_getElem oqz,e2],rs_rd e5⟩
attribute [local irreducible] Sl pt ro imgS Parts
theorem EqRows_c {A:SP}{a1 a2:Option Addr}{c1 c2 n m:Nat}{vs ws:List Value}{ls ms:List (List Nat)}(h1:RwF A a1 vs ls)(h2:RwF A a2 ws ms)(hn:ls.length=n)(hm:ms.length=m)(hnl:n<=4611686018427387904)(hml:m<=4611686018427387904)(hl1:∀l∈ls,l.length<=4611686018427387904)(hl2:∀l∈ms,l.length<=4611686018427387904):
    Fn Tryz.prog 62 #[.slice a1 n c1,.slice a2 m c2] A (λ v B=>v= .bool (decide (ls=ms))/\ A=B):=by
  refine fn_enterW func62 rfl ntmps62 (by simp) ?_;refine Zcl ?_;refine tv (o_len underlying41 rfl) ?_;refine tlm ?_;refine tv (o_len underlying41 rfl) ?_;refine Zl ?_;refine tc_cond rfl (sbq ?_) (sbq ?_)
  . intro h;refine Zb6 ?_;refine ⟨.bool false,_,res1 rfl rfl, ?_,(by rw [decide_eq_false];intro e;subst e;omega),rfl⟩;exact Dr.sat drqz
  intro h;refine Zjy ?_;refine tc_loop (λ kk ρ BB=>∃ (i:Nat),(i<=n)/\ (ls.take i=ms.take i)/\ kk=n-i/\ ρ 5=(vn i)/\ ρ 0= .slice a1 n c1/\ ρ 1= .slice a2 m c2/\ BB=A) (m:=n-(0)) ?_ ?_
  . exact ⟨0,by omega,rfl,rfl,rfl,rfl,rfl,rfl⟩
  intro k ρ B hI;obtain ⟨i,hp0,hp1,hkk1,hE5,hE0,hE1,hBA⟩:=hI;obtain rfl:=hBA.symm;refine te 5 hE5 ?_;refine te 0 hE0 ?_;refine te 1 hE1 ?_;refine Zed ?_;refine Zgm ?_;refine tc_cond rfl (λ h=> ?_) (sbq ?_)
  . have hi:i<ls.length:=(by simp at h;omega);have hj:i<ms.length:=(by omega);obtain ⟨b1,k1,g1,r1⟩:=h1.row i hi;obtain ⟨b2,k2,g2,r2⟩:=h2.row i hj;have q1:=hl1 _ (List.getElem_mem hi);have q2:=hl2 _ (List.getElem_mem hj);have v1:=h1.len;have v2:=h2.len;refine Zbe ?_;refine Zfr ?_;refine Zbt ?_;refine ql_v rfl (o_ixP1 underlying41 sz57 rfl rfl oqz (nn_rs h1.rd (λ _=>by omega))) ?_;refine ql_v rfl (o_ldP p57 rfl h1.rd g1) ?_;refine Zbt ?_;refine ql_v rfl (o_ixP1 underlying41 sz57 rfl rfl oqz (nn_rs h2.rd (λ _=>by omega))) ?_;refine ql_v rfl (o_ldP p57 rfl h2.rd g2) ?_;refine ql_c rfl (λ w=>exec_call bd60 rfl) (EqBytes_c (xs:=ls[i]) (ys:=ms[i]) (h1:=r1) (h2:=r2)) ?_;refine ql_v rfl (o_not rfl) ?_;refine Zec ?_;refine tc_cond rfl (sbq ?_) (λ h=> ?_)
    . intro h;refine Zjt ?_;refine ⟨.bool false,_,res1 rfl rfl, ?_,(by rw [decide_eq_false];intro e;subst e;simp at h),rfl⟩;exact Dr.sat drqz
    have heq:ls[i]=ms[i]:=(by simpa using h);refine Zfl ?_;exact ⟨_,by omega,i+1,by omega,by rw [List.take_succ_eq_append_getElem hi,List.take_succ_eq_append_getElem hj,hp1,heq],rfl,rfl,rfl,rfl,rfl⟩
  intro h;refine Zgf ?_;refine ⟨.bool true,_,res1 rfl rfl, ?_,(by rw [decide_eq_true];have e:i=n:=(by simp at h;omega);rw [List.take_of_length_le oqz,List.take_of_length_le oqz] at hp1;exact hp1),rfl⟩;exact Dr.sat drqz
theorem Contents_any {A R:SP}{C:SP->SP}{d:Nat}{s:DevS}(hc:Ct A (Dev d s) R C:=by exact cbqz){q:Nat}(hq:q<=4611686018427387904:=by omega):Fn Tryz.prog 63 #[pz d,vn q] A (λ r B=>∃a c vs,r= .slice a (ctS q s).length c/\ (ctS q s).length<=c/\ B=A*Parts vs (ctS q s)*Sl 1 (.slice a (ctS q s).length c) (ctS q s).length vs):=by
  by_cases h:q<s.ls.length
  . exact Contents_c hc h
  have e:ctS q s=[]:=ctS_out h;intro g w hs;refine ((λ hc h=>ContentsNo_c hc (hp:=by omega) (hno:=h)) hc oqz g w hs).mono ?_;rintro x w' ⟨v,B,rfl,⟨rfl,rfl⟩,hB⟩;refine ⟨_,A*Parts [] []*Sl 1 (.slice none 0 0) 0 [],rfl,⟨none,0,[],by rw [e];rfl,by rw [e];exact Nat.le_refl _,by rw [e];rfl⟩, ?_⟩;rw [parts_nil,star_emp];exact sl_nil hB
theorem rContents_any {A R:SP}{C:SP->SP}{d:Nat}{s:DevS}(hc:Ct A (RDev d s) R C:=by exact cbqz){q:Nat}(hq:q<=4611686018427387904:=by omega):Fn Tryz.prog 64 #[pz d,vn q] A (λ r B=>∃a c vs,r= .slice a (ctS q s).length c/\ (ctS q s).length<=c/\ B=A*Parts vs (ctS q s)*Sl 1 (.slice a (ctS q s).length c) (ctS q s).length vs):=by
  by_cases h:q<s.ls.length
  . exact rContents_c hc h
  have e:ctS q s=[]:=ctS_out h;intro g w hs;refine ((λ hc h=>rContentsNo_c hc (hno:=h)) hc oqz g w hs).mono ?_;rintro x w' ⟨v,B,rfl,⟨rfl,rfl⟩,hB⟩;refine ⟨_,A*Parts [] []*Sl 1 (.slice none 0 0) 0 [],rfl,⟨none,0,[],by rw [e];rfl,by rw [e];exact Nat.le_refl _,by rw [e];rfl⟩, ?_⟩;rw [parts_nil,star_emp];exact sl_nil hB
end Go.Vl

namespace Go.Vl
open Go Go.Proofs Go.Proofs.Tryz
theorem ctS_rows {s:DevS}(hw:WfD s)(q:Nat):(ctS q s).length<=2199023255552/\∀l∈ctS q s,l.length=64:=by
  by_cases h:q<s.ls.length
  . rw [ctS_at h,List.length_map]
    have hl:=hw.line _ (List.getElem_mem h);exact ⟨hl.small,λ l hm=>by obtain ⟨x,hx,rfl⟩:=List.mem_map.1 hm;exact lb_len (hl.eight _ hx)⟩
  have e:ctS q s=[]:=ctS_out h;rw [e];exact ⟨by simp,λ l h=>by simp at h⟩
def fmX (s:DevS):(List Int×Int)×DevS:=if 578<=s.ls.length then (((fmA (s.ls.length*64) s).1,(fmtF (fst4 (s.ls.length*64)) s).1),(fmtF (fst4 (s.ls.length*64)) s).2) else (([0,0,0,0,0],80),s)
theorem room_goesK {r:Nat}{keep:List Int}{s:DevS}(hw:WfD s)(h:Room r s):Room r (goesS keep s):=λ l hl=>by
  have h0:=h _ (List.getElem_mem hw.pos);have h1:=List.length_pos_iff.2 (hw.line _ (List.getElem_mem hw.pos)).ne
  simp only [goesS,goPart] at hl
  obtain ⟨j,hj,rfl⟩:=List.mem_iff_getElem.1 hl
  simp only [List.getElem_mapIdx]
  simp only [List.length_mapIdx] at hj
  rw [if_pos hj];simp [goL];omega
theorem st8_room {r v:Nat}{p e:Int}{s s2:DevS}(h:st8 p v s=(e,s2))(hw:WfD s)(hv:v<18446744073709551616)(hr:Room (r+1) s):Room r s2:=by
  have h0:Room r s:=room_le hr oqz
  unfold st8 at h
  split at h
  . rw [←(Prod.mk.inj h).2];exact h0
  split at h
  . rw [←(Prod.mk.inj h).2];exact h0
  rw [←(Prod.mk.inj h).2]
  exact done_room (layS_wf hw (room_le hr oqz) hv) (onLine_room hr λ l=>by simp [layL])
theorem sto_room {r:Nat}{p e:Int}{b:List Nat}{s s2:DevS}(h:sto p b s=(e,s2))(hw:WfD s)(hb:∀x∈b,x<256)(hr:Room (r+b.length) s):Room r s2:=by
  have h0:Room r s:=room_le hr oqz;have h2:(sto p b s).2=s2:=(by rw [h]);rw [←h2]
  unfold sto
  split
  . exact h0
  exact (storeF_room b.length rfl hw hb hr).1
theorem flushS_room {r p:Nat}{s:DevS}(h:Room r s):Room r (flushS p s):=λ l hl=>by
  unfold flushS onLine at hl
  split at hl
  . rcases List.mem_or_eq_of_mem_set hl with h1|h1
    . exact h l h1
    rw [h1]
    rename_i l0 e
    exact h l0 (List.mem_of_getElem? e)
  exact h l hl
theorem fl1_room {r:Nat}{p e:Int}{s s2:DevS}(h:fl1 p s=(e,s2))(hw:WfD s)(hr:Room r s):Room r s2:=by
  unfold fl1 at h
  split at h
  . rw [←(Prod.mk.inj h).2];exact hr
  rw [←(Prod.mk.inj h).2];exact done_room (flushS_wf hw) (flushS_room hr)
theorem fe_room {r:Nat}{e:Int}{s s2:DevS}(h:fe s=(e,s2))(hw:WfD s)(hr:Room r s):Room r s2:=by
  unfold fe at h
  split at h
  . rw [←(Prod.mk.inj h).2];exact hr
  rw [←(Prod.mk.inj h).2]
  refine done_room (fence_wf hw) λ l hl=> ?_
  simp only [fenceS,List.mem_map] at hl
  obtain ⟨l0,h0,rfl⟩:=hl;have h3:(fenceL l0).st.length<=l0.st.length:=(by unfold fenceL;split<;>simp);have:=hr l0 h0
  omega
theorem armS_room {r:Nat}{e:Int}{ars:List (Int×List Int)}{s s2:DevS}(h:armS ars s=(e,s2))(hr:Room r s):Room r s2:=by
  unfold armS at h
  split at h
  . rw [←(Prod.mk.inj h).2];exact hr
  split at h
  . rw [←(Prod.mk.inj h).2];exact hr
  split at h
  . rw [←(Prod.mk.inj h).2];exact hr
  rw [←(Prod.mk.inj h).2];exact hr
theorem crS_room {r:Nat}{e:Int}{kp:List Int}{s s2:DevS}(h:crS kp s=(e,s2))(hw:WfD s)(hr:Room r s):Room r s2:=by
  unfold crS at h
  split at h
  . rw [←(Prod.mk.inj h).2];exact hr
  split at h
  . rw [←(Prod.mk.inj h).2];exact hr
  rw [←(Prod.mk.inj h).2];exact room_goesK hw hr
def ctI (p:Int)(s:DevS):List (List Nat):=if p<0 then [] else ctS p.toNat s
def ldB (p m:Int)(s:DevS):List Nat:=if rdy s.ls.length s.off p m=0 then ((imgS s).drop p.toNat).take m.toNat else []
theorem Op9W.left {A X:SP}{t:Op9}(h:Op9W A t):Op9W (A*X) t:=⟨h.cap,h.rs.left,h.byt,h.v,h.kcap,h.krs.left,h.kb,h.q,h.n⟩
structure RgC where
  ba:Option Addr
  bc:Nat
  bef:List Op9
  q:Int
  a:Option Addr
  c:Nat
  b:List Nat
  ha:Option Addr
  hc:Nat
  beh:List Op9
  ka:Option Addr
  kc:Nat
  kp:List Int
def RgC.cells (t:RgC):List Value:=[.slice t.ba t.bef.length t.bc,.int .i64 t.q,.slice t.a t.b.length t.c,.slice t.ha t.beh.length t.hc,.slice t.ka t.kp.length t.kc]
structure RgW (A:SP) (t:RgC):Prop where
  hrb:Rs A t.ba (ocs t.bef)
  hwb:∀x∈t.bef,Op9W A x
  hrh:Rs A t.ha (ocs t.beh)
  hwh:∀x∈t.beh,Op9W A x
  hr:Rs A t.a (bys t.b)
  hb:∀x∈t.b,x<256
  hcap:t.b.length<=t.c
  hrk:Rs A t.ka (ints t.kp)
def xm (i:Nat):Int:=IntKind.u8.wrap (IntKind.i64.wrap ((BitVec.ofInt IntKind.i64.bits 165^^^BitVec.ofInt IntKind.i64.bits (i:Int)).toNat))
def xmN (i:Nat):Nat:=(xm i).toNat
theorem xm_val (i:Nat):Value.int .u8 (xm i)= .int .u8 ((xmN i:Nat):Int):=by
  have h:0<=xm i:=(by unfold xm;simp [IntKind.wrap,IntKind.bits,IntKind.signed];omega)
  unfold xmN;rw [Int.toNat_of_nonneg h]
def spm (n:Nat):List Nat:=(List.range 80).map λ j=>xmN (n+j)
theorem spm_len (n:Nat):(spm n).length=80:=by simp [spm]
def spi (n:Nat):List Int:=(List.range 9).map λ j=>(7700+((n+j:Nat):Int))
theorem spm_at {xs:List Nat}{i m:Nat}(hm:xs.length=m)(h:m<=i)(hi:i<(xs++spm m).length):(xs++spm m)[i]=xmN i:=by
  rw [List.getElem_append_right oqz]
  simp only [spm,List.getElem_map,List.getElem_range];congr 1;omega
theorem spare_step {α:Type}{W:List α}{L i:Nat}{v z:α}(hL:W.length=L)(hi:i<W.length)(hv:W[i]=v):(W.take i++List.replicate (L-i) z).set i v=W.take (i+1)++List.replicate (L-(i+1)) z:=by
  rw [set_mid (by rw [List.length_take];omega) oqz,List.take_succ_eq_append_getElem hi,hv]
theorem rs_pre {A:SP}{a:Option Addr}{xs ys:List Nat}(h:Rs A a (bys (xs++ys))):Rs A a (bys xs):=by
  have:=h.sub xs.length
  rwa [bys_takeG,List.take_left] at this
attribute [local irreducible] Sl pt ro
theorem Zi2 {p r:Prop}(k:r)(h:Kq r->p:=by intro k;refine tv (o_xor rfl rfl) ?_;refine tv (by first|exact o_conv8 underlying3 underlying5 rfl|exact o_conv underlying3 underlying5 rfl) ?_;exact k.o):p:=h ⟨k⟩
theorem Spare_c {A:SP}{a:Option Addr}{c m:Nat}{xs:List Nat}(hr:Rs A a (bys xs):=by exact rbqz)(hm:xs.length=m:=by first|assumption|rfl)(hl:m<=17592186043904:=by omega):
    Fn Tryz.prog 228 #[.slice a m c] A (λ v B=>∃a,v= .slice a m (m+80)/\ B=A*Sl 1 (.slice a (m+80) (m+80)) (m+80) (bys (xs++spm m))):=by
  refine fn_enterW func228 rfl ntmps228 (by simp) ?_;have hW:(xs++spm m).length=m+80:=(by rw [List.length_append,hm,spm_len]);refine Zbz ?_;refine tv (o_len underlying57 rfl) ?_;refine tv adqz ?_;refine tl_env (d:=7) (v:=(vn (m+80))) (rfl) ?_;refine tl_x rfl (o_makeSlice (len:=m+80) (cap:=m+80) underlying57 sz5 by5 z5 rfl rfl rfl oqz oqz oqz) ?_;rintro _ _ ⟨b8,rfl,rfl⟩;rw [bys_rep]
  refine tl_pre (λ _ _ h=>sl_new (k:=1) (n:=m+80) (cap:=m+80) (xs:=bys (List.replicate (m+80) 0)) h (Nat.le_refl _) (by rw [bys_length,List.length_replicate];omega) (by rw [List.take_of_length_le (by rw [bys_length,List.length_replicate];omega)])) ?_;refine Zhk ?_;refine tc_loop (λ kk ρ BB=>∃ (i:Nat),(i<=m+80)/\ kk=m+80-i/\ ρ 4=(vn i)/\ ρ 0= .slice a m c/\ ρ 3= .slice (some ⟨b8,0,none⟩) (m+80) (m+80)/\ BB=A*Sl 1 (.slice (some ⟨b8,0,none⟩) (m+80) (m+80)) (m+80) (bys ((xs++spm m).take i++List.replicate (m+80-i) 0))) (m:=m+80-(0)) ?_ ?_
  . exact ⟨0,by omega,rfl,rfl,rfl,rfl,rfl⟩
  intro k ρ B hI;obtain ⟨i,hp0,hkk1,hE4,hE0,hE3,rfl⟩:=hI;refine te 4 hE4 ?_;refine te 0 hE0 ?_;refine te 3 hE3 ?_;refine Zju ?_;refine tc_cond rfl (λ h=> ?_) (λ h=> ?_)
  . have hi:i<(xs++spm m).length:=(by simp at h;omega);refine Zin ?_;refine Zbp ?_;refine Zn ?_;refine tc_cond rfl (λ h=> ?_) (λ h=> ?_)
    . have hlt:i<xs.length:=(by simp at h;omega);have hv:(xs++spm m)[i]=xs[i]:=List.getElem_append_left oqz;refine Zh2 ?_;refine tlm ?_;refine Zcw ?_;refine Zcq ?_;refine Zjx ?_;exact ⟨_,by omega,i+1,by omega,rfl,rfl,rfl,rfl,by rw [spare_step hW hi hv]⟩
    have hv:=spm_at hm (show m<=i by simp at h;omega) hi;refine Zh2 ?_;refine Zi2 ?_;refine tl_env (d:=30) (v:= .int .u8 ((xmN i:Nat):Int)) (xm_val i) ?_;refine Zcq ?_;refine Zjx ?_;exact ⟨_,by omega,i+1,by omega,rfl,rfl,rfl,rfl,by rw [spare_step hW hi hv]⟩
  obtain rfl:i=m+80:=by simp at h;omega
  rw [List.take_of_length_le oqz,Nat.sub_self,List.replicate_zero,List.append_nil]
  refine Zdx ?_;refine Zbp ?_;refine tv (o_slice (l:=0) (h:=m) underlying57 sz5 rfl bnd_none (bnd_nat rfl) oqz oqz) ?_;refine tl_env (d:=35) (v:= .slice (some ⟨b8,0,none⟩) m (m+80)) (by show Value.slice (cutAddr _ _ 0 1) (m-0) (m+80-0)=_;rw [cut_none];rfl) ?_;refine Zd ?_;exact ⟨.slice (some ⟨b8,0,none⟩) m (m+80),_,res1 rfl rfl,λ _ _ h=>h,some ⟨b8,0,none⟩,rfl,rfl⟩
theorem Kept_c {A:SP}{a a2:Option Addr}{c2 m:Nat}{xs:List Nat}(hr:Rs A a (bys (xs++spm m)):=by exact rbqz)(hr2:Rs A a2 (bys xs):=by exact rbqz)(hm:xs.length=m:=by first|assumption|rfl)(hl:m<=17592186043904:=by omega):
    Fn Tryz.prog 229 #[.slice a m (m+80),.slice a2 m c2] A (λ v B=>v= .bool true/\ A=B):=by
  refine fn_enterW func229 rfl ntmps229 (by simp) ?_;have hW:(xs++spm m).length=m+80:=(by rw [List.length_append,hm,spm_len]);refine Zcl ?_;refine tlm ?_;refine tl_c rfl (o_call bd60 rfl (EqBytes_c (xs:=xs) (ys:=xs) (h1:=rs_pre hr))) ?_;rintro _ _ ⟨rfl,rfl⟩;refine tl_env (d:=9) (v:= .bool true) (congrArg Value.bool (decide_eq_true rfl)) ?_;refine tv (o_not rfl) ?_;refine Z3 ?_;intro h;refine Zc6 ?_;refine Zbp ?_;refine tv adqz ?_;refine tl_env (d:=14) (v:=(vn (m+80))) (rfl) ?_;refine tv (o_slice (l:=0) (h:=m+80) underlying57 sz5 rfl bnd_none (bnd_nat rfl) oqz oqz) ?_;refine tl_env (d:=15) (v:= .slice a (m+80) (m+80)) (by show Value.slice (cutAddr _ _ 0 1) (m+80-0) (m+80-0)=_;rw [cut_none];rfl) ?_;refine Zd1 ?_;refine tv (o_len underlying57 rfl) ?_;refine Zii ?_;refine tc_loop (λ kk ρ BB=>∃ (i:Nat),(m<=i)/\ (i<=m+80)/\ kk=m+80-i/\ ρ 6=(vn i)/\ ρ 5= .slice a (m+80) (m+80)/\ BB=A) (m:=m+80-(m)) ?_ ?_
  . exact ⟨m,by omega,by omega,rfl,rfl,rfl,rfl⟩
  intro k ρ B hI;obtain ⟨i,hp0,hp1,hkk1,hE6,hE5,hBA⟩:=hI;obtain rfl:=hBA.symm;refine te 6 hE6 ?_;refine te 5 hE5 ?_;refine Zju ?_;refine tc_cond rfl (λ h=> ?_) (sbq ?_)
  . have hi:i<(xs++spm m).length:=(by simp at h;omega);have hv:=spm_at hm hp0 hi;refine Zlg ?_;refine tv (o_ixP1 underlying57 sz5 rfl rfl oqz (nn_rs hr (λ _=>by rw [bys_length];omega))) ?_;refine tv (o_ldP p5 rfl hr (bys_at hi)) ?_;refine tl_env (d:=27) (v:= .int .u8 ((xmN i:Nat):Int)) (congrArg (λ z:Nat=>Value.int .u8 (z:Int)) hv) ?_;refine tlm ?_;refine Zi2 ?_;refine tl_env (d:=30) (v:= .int .u8 ((xmN i:Nat):Int)) (xm_val i) ?_;refine Zck ?_;intro h;refine Zfl ?_;exact ⟨_,by omega,i+1,by omega,by omega,rfl,rfl,rfl,rfl⟩
  intro h;refine Zgf ?_;refine ⟨_,_,res1 rfl rfl, ?_,rfl,rfl⟩;exact Dr.sat drqz
end Go.Vl

namespace Go.Vl
open Go Go.Proofs Go.Proofs.Tryz
theorem rangeP_room {r:Nat}{p m e:Int}{s s2:DevS}(h:rangeP p m s=(e,s2))(hw:WfD s)(hr:Room r s):Room r s2:=by
  have h2:(rangeP p m s).2=s2:=(by rw [h]);rw [←h2]
  unfold rangeP
  split
  . exact hr
  split
  . exact hr
  split
  . exact hr
  exact (flF_room _ _ _ hw hr).1
theorem st8_wf {v:Nat}{p e:Int}{s s2:DevS}(h:st8 p v s=(e,s2))(hw:WfD s)(hv:v<18446744073709551616)(hr:Room 1 s):WfD s2:=by
  unfold st8 at h
  split at h
  . rw [←(Prod.mk.inj h).2];exact hw
  split at h
  . rw [←(Prod.mk.inj h).2];exact hw
  rw [←(Prod.mk.inj h).2];exact doneS_wf (layS_wf hw hr hv)
def wd (n:Int):Nat:=2^wi n 4
theorem done_on {s:DevS}(h:doneE s=0):(doneS s).off=s.off:=by
  unfold doneE at h
  unfold doneS
  cases e:s.arms with
  |nil=>rfl
  |cons a ar=>
    rw [e] at h
    simp only at h ⊢
    split
    . rfl
    rename_i c;rw [if_neg c] at h;exact absurd h (by decide)
theorem storeF_on:∀ (m:Nat) {p:Nat} {b:List Nat} {s s2:DevS},b.length=m->storeF b.length p b s=(0,s2)->s2.off=s.off:=by
  intro m
  induction m using Nat.strongRecOn with
  |_ m ih=>
    intro p b s s2 hm h
    by_cases h0:b=[]
    . subst h0;rw [storeF_nil] at h;simp only [Prod.mk.injEq,true_and] at h;rw [h]
    have hpos:0<b.length:=List.length_pos_iff.2 h0;rw [storeF_step h0] at h
    by_cases hd:doneE (layS (p-p%8) (nm (stW p b s)) s)=0
    . rw [if_neg (by rw [hd];decide)] at h
      have:=ih (b.drop (8-p%8)).length (by rw [List.length_drop];omega) rfl h;rw [this,done_on hd,layS_off]
    rw [if_pos hd] at h
    simp only [Prod.mk.injEq] at h
    exact absurd h.1 hd
theorem sto_on {p:Int}{b:List Nat}{s s2:DevS}(h:sto p b s=(0,s2)):s2.off=s.off:=by
  unfold sto at h
  split at h
  . rename_i hr;simp only [Prod.mk.injEq] at h;exact absurd h.1 hr
  exact storeF_on _ rfl h
def needN (l:List (Int×Int)):Nat:=(l.map λ x=>24+up8 x.2.toNat).sum
theorem needN_cons (x:Int×Int)(l:List (Int×Int)):needN (x::l)=24+up8 x.2.toNat+needN l:=by unfold needN;rw [List.map_cons,List.sum_cons]
theorem needF_ok:∀{l:List (Int×Int)} {s e r:Int},(∀x∈l,1<=x.2)->needF (lensX l) s=(r,e)->e=0->r=s+(needN l:Nat)
  |[],s,e,r,_,h,_=>by
    simp only [lensX,List.map_nil,needF,Prod.mk.injEq] at h
    rw [←h.1];show s=s+((0:Nat):Int);omega
  |x::l,s,e,r,hx,h,he=>by
    have h1:=hx x (by simp);obtain ⟨n,hn⟩:=Int.eq_ofNat_of_zero_le (show 0<=x.2 by omega);have hc:lensX (x::l)=(n:Int)::lensX l:=(by unfold lensX;rw [List.map_cons,hn]);rw [hc,needF_cons oqz] at h
    split at h
    . simp only [Prod.mk.injEq] at h;omega
    rename_i hno
    have h2:=needF_ok (λ x hx'=>hx x (List.mem_cons_of_mem _ hx')) h he;rw [h2,needN_cons,hn,Int.toNat_natCast]
    have:(rndS n).1=((up8 n:Nat):Int):=(by unfold rndS at hno ⊢;split at hno<;>rename_i hh;exact absurd (.inl (by decide)) hno;rw [if_neg hh])
    omega
attribute [local irreducible] crk crL crc Sl pt ro Dev imgS recS
theorem Zb0 {p r:Prop}(k:r)(h:Kq r->p:=by intro k;refine tv (o_eqi rfl rfl) ?_;refine Za ?_;exact k.o):p:=h ⟨k⟩
theorem Zd2 {p r:Prop}(k:r)(h:Kq r->p:=by intro k;refine Zb0 ?_;refine tc_cond rfl dbq (sbq ?_);exact k.o):p:=h ⟨k⟩
theorem Zk2 {p r:Prop}(k:r)(h:Kq r->p:=by intro k;refine Z8 ?_;refine tk ?_;refine tv (o_pick_t rfl wqz) ?_;exact k.o):p:=h ⟨k⟩
theorem Zcz {p r:Prop}(k:r)(h:Kq r->p:=by intro k;refine tv (o_nei rfl rfl) ?_;refine Z1 ?_;exact k.o):p:=h ⟨k⟩
theorem Open_ok {A R:SP}{C:SP->SP}{d:Nat}{s:DevS}(hc:Ct A (Dev d s) R C:=by exact cbqz){p q:Int}(hp: -9223372036854775808<=p/\ p<=9223372036854775807:=by omega)(hq: -9223372036854775808<=q/\ q<=9223372036854775807:=by omega)(hok:(64<=p/\ p%64=0/\ 128<=q/\ q%64=0/\ p<=(s.ls.length:Int)*64/\ q<=(s.ls.length:Int)*64-p):=by omega):
    Fn Tryz.prog 38 #[pz d,.int .i64 p,.int .i64 q] A (λ r B=>∃b,r= .tuple #[pz b,.int .i64 0]/\ B=A*pt b (cl [pz d,.int .i64 p,.int .i64 q] 99)):=by
  refine fn_enterW func38 rfl ntmps38 (by simp) ?_;refine tc_have (λ _ _ h=>ct_wf2 hc h) λ hw=> ?_
  have htop:=hw.top;have hpos:=hw.pos;obtain ⟨rfl,hC⟩:=hc;refine Zkx ?_;refine tl_c rfl (o_call bd104 rfl (Size_c (s:=s))) ?_;refine Z4 ?_;refine Zp ?_;refine Zb ?_;refine Zd2 ?_;intro h;refine tc_seq ?_;refine tc_cut (λ ρ BB=>∃ (bb:Bool),(bb=decide (¬(64<=p/\ p%64=0/\ 128<=q/\ q%64=0/\ p<=(s.ls.length:Int)*64/\ q<=(s.ls.length:Int)*64-p)))/\ ρ 14= .bool bb/\ ρ 0=(pz d)/\ ρ 1= .int .i64 p/\ ρ 2= .int .i64 q/\ BB=R*Dev d s) ?_ ?_
  . skip
    refine Zm ?_;refine Zdq ?_;refine tl_bool (d:=17) rfl (λ h=> ?_) (λ h=> ?_)
    . have g17:(p<64):=(by first|exact of_decide_eq_true h|(have h2:=h;simp at h2;omega)|simpa using h);refine Zg7 ?_;refine Zh ?_;refine Z7 ?_;refine Zg7 ?_;refine Zg7 ?_;refine Zk2 ?_;refine Zes ?_;exact ⟨_,by first|exact (decide_eq_true oqz).symm|exact (decide_eq_false oqz).symm|(rw [decide_eq_decide];omega),rfl,rfl,rfl,rfl,rfl⟩
    have g17:¬(p<64):=(by first|exact of_decide_eq_false h|(have h2:=h;simp at h2;omega)|simpa using h);refine Zee ?_;refine Zcz ?_;refine tl_bool (d:=22) rfl (λ h=> ?_) (λ h=> ?_)
    . have g22:(p<64∨p%64≠0):=(by first|exact of_decide_eq_true h|(have h2:=h;simp at h2;omega)|simpa using h);refine Zh ?_;refine Z7 ?_;refine Zg7 ?_;refine Zg7 ?_;refine Zk2 ?_;refine Zes ?_;exact ⟨_,by first|exact (decide_eq_true oqz).symm|exact (decide_eq_false oqz).symm|(rw [decide_eq_decide];omega),rfl,rfl,rfl,rfl,rfl⟩
    have g22:¬(p<64∨p%64≠0):=(by first|exact of_decide_eq_false h|(have h2:=h;simp at h2;omega)|simpa using h);refine Zjw ?_;refine Z1 ?_;refine tl_bool (d:=26) rfl (λ h=> ?_) (λ h=> ?_)
    . have g26:(p<64∨p%64≠0∨q<128):=(by first|exact of_decide_eq_true h|(have h2:=h;simp at h2;omega)|simpa using h);refine Zg7 ?_;refine Zg7 ?_;refine Zk2 ?_;refine Zes ?_;exact ⟨_,by first|exact (decide_eq_true oqz).symm|exact (decide_eq_false oqz).symm|(rw [decide_eq_decide];omega),rfl,rfl,rfl,rfl,rfl⟩
    have g26:¬(p<64∨p%64≠0∨q<128):=(by first|exact of_decide_eq_false h|(have h2:=h;simp at h2;omega)|simpa using h);refine Zee ?_;refine Zcz ?_;refine tl_bool (d:=31) rfl (λ h=> ?_) (λ h=> ?_)
    . have g31:(p<64∨p%64≠0∨q<128∨q%64≠0):=(by first|exact of_decide_eq_true h|(have h2:=h;simp at h2;omega)|simpa using h);refine Zg7 ?_;refine Zk2 ?_;refine Zes ?_;exact ⟨_,by first|exact (decide_eq_true oqz).symm|exact (decide_eq_false oqz).symm|(rw [decide_eq_decide];omega),rfl,rfl,rfl,rfl,rfl⟩
    have g31:¬(p<64∨p%64≠0∨q<128∨q%64≠0):=(by first|exact of_decide_eq_false h|(have h2:=h;simp at h2;omega)|simpa using h);refine Z2 ?_;refine Zir ?_;refine tl_bool (d:=36) rfl (λ h=> ?_) (λ h=> ?_)
    . have g36:(p<64∨p%64≠0∨q<128∨q%64≠0∨(s.ls.length:Int)*64<p):=(by first|exact of_decide_eq_true h|(have h2:=h;simp at h2;omega)|simpa using h);refine Zk2 ?_;refine Zes ?_;exact ⟨_,by first|exact (decide_eq_true oqz).symm|exact (decide_eq_false oqz).symm|(rw [decide_eq_decide];omega),rfl,rfl,rfl,rfl,rfl⟩
    have g36:¬(p<64∨p%64≠0∨q<128∨q%64≠0∨(s.ls.length:Int)*64<p):=(by first|exact of_decide_eq_false h|(have h2:=h;simp at h2;omega)|simpa using h);refine Z2 ?_;refine tlm ?_;refine Zgu ?_;refine Zes ?_;exact ⟨_,by first|exact (decide_eq_true oqz).symm|exact (decide_eq_false oqz).symm|(rw [decide_eq_decide];omega),rfl,rfl,rfl,rfl,rfl⟩
  intro ρ B hI;obtain ⟨bb,hbb0,hE14,hE0,hE1,hE2,rfl⟩:=hI;refine q_then_n ?_;refine te 14 hE14 ?_;refine te 0 hE0 ?_;refine te 1 hE1 ?_;refine te 2 hE2 ?_;refine tc_cond rfl (λ h=> ?_) (sbq ?_)
  . exfalso;rw [h] at hbb0;have:=of_decide_eq_true hbb0.symm;omega
  intro h;refine Zbd ?_;refine Zb ?_;refine Z2 ?_;refine tv (o_bS (l:=[_,_,_]) (pv_cons wqz (pv_cons wqz (pv_cons wqz pv_nil))) underlying99 z99 (pl99 underlying99) rfl) ?_;refine tl_x rfl (o_box rfl rfl) ?_;rintro _ _ ⟨b47,rfl,rfl⟩;refine Zc4 ?_;exact ⟨_,_,res2 rfl rfl rfl,λ _ _ h=>h,b47,rfl,rfl⟩
theorem Zg8 {p r:Prop}(k:r)(h:Kq r->p:=by intro k;refine Zgo ?_;refine Zb ?_;exact k.o):p:=h ⟨k⟩
theorem Zlw {p r:Prop}(k:r)(h:Kq r->p:=by intro k;refine Zg8 ?_;refine tv (o_eqp underlying89 rfl rfl) ?_;exact k.o):p:=h ⟨k⟩
theorem Ze7 {p r:Prop}(k:r)(h:Kq r->p:=by intro k;refine Za ?_;refine tc_cond rfl dbq (sbq ?_);exact k.o):p:=h ⟨k⟩
theorem Zci {p r:Prop}(k:r)(h:Kq r->p:=by intro k;refine Zd ?_;refine q_block_r (q_then_r ?_);exact k.o):p:=h ⟨k⟩
theorem Zhl {p r:Prop}(k:r)(h:Kq r->p:=by intro k;refine sr ?_;refine Zci ?_;exact k.o):p:=h ⟨k⟩
theorem ready11_c {A R:SP}{C:SP->SP}{d:Nat}{s:DevS}(hc:Ct A (Dev d s) R C:=by exact cbqz){bl at_ sz:Nat}(hl:Has R bl (cl (lcs11 d at_ sz) 99):=by exact hbqz):
    Fn Tryz.prog 162 #[pz bl] A (λ r B=>r= .int .i64 (stE s)/\ A=B):=by
  refine fn_enterW func162 rfl ntmps162 (by simp) ?_;obtain ⟨rfl,hC⟩:=hc;refine Zlw ?_;refine tlm ?_;refine tl_bool (d:=6) rfl dbq (sbq ?_);intro h;refine Zw ?_;refine Zfg ?_;refine tv (o_eqp underlying47 rfl rfl) ?_;refine tv (o_pick_f rfl wqz) ?_;refine Ze7 ?_;intro h;refine Zs ?_;refine Zfg ?_;refine tl_c rfl (o_call bd58 rfl (Off_c (s:=s))) ?_;refine Z4 ?_;refine tc_cond rfl (λ h=> ?_) (λ h=> ?_)
  . have ho:s.off=true:=(by first|exact h|simpa using h);refine Zhl ?_;exact ⟨.int .i64 5,_,res1 rfl rfl,λ _ _ h=>h,by unfold stE;rw [if_pos ho],rfl⟩
  have ho:s.off=false:=(by first|exact h|simpa using h);refine Zbd ?_;refine Zd0 ?_;exact ⟨.int .i64 0,_,res1 rfl rfl,λ _ _ h=>h,by unfold stE;rw [if_neg (by rw [ho];decide)],rfl⟩
theorem Zda {p r:Prop}(k:r)(h:Kq r->p:=by intro k;refine tm 2 rfl kqz rfl (o_fieldAddr (o:=0) underlying99 rfl rfl sz47 rfl) ?_;refine tm 3 rfl kqz rfl (o_load p47 rfl haqz rfl) ?_;exact k.o):p:=h ⟨k⟩
theorem Zem {p r:Prop}(k:r)(h:Kq r->p:=by intro k;refine tm 4 rfl kqz rfl (o_move wqz) ?_;refine tm 5 rfl kqz rfl (o_nilCheck rfl) ?_;exact k.o):p:=h ⟨k⟩
theorem Zel {p r:Prop}(k:r)(h:Kq r->p:=by intro k;refine tm 6 rfl kqz rfl (o_fieldAddr (o:=1) underlying99 rfl rfl sz3 rfl) ?_;refine tm 7 rfl kqz rfl (o_load p3 rfl haqz rfl) ?_;exact k.o):p:=h ⟨k⟩
theorem Zjs {p r:Prop}(k:r)(h:Kq r->p:=by intro k;refine ⟨by repeat (first|with_reducible exact dr_refl|apply dr_keep|apply dr_drop), ?_⟩;refine tm 9 rfl kqz rfl (o_assign wqz) ?_;exact k.o):p:=h ⟨k⟩
theorem Clear_c {A R:SP}{C:SP->SP}{d:Nat}{s:DevS}(hc:Ct A (Dev d s) R C:=by exact cbqz){bl at_ sz:Nat}(hl:Has R bl (cl (lcs11 d at_ sz) 99):=by exact hbqz)(hlw:LogW (s.ls.length*64) at_ sz:=by assumption)(hroom:Room 1 s:=by assumption):
    Fn Tryz.prog 100 #[pz bl] A (λ r B=>∃e s2,clearS at_ s=(e,s2)/\ r= .int .i64 e/\ B=C (Dev d s2)):=by
  refine fn_enterW func100 rfl ntmps100 (by simp) ?_;refine tc_have (λ _ _ h=>ct_wf2 hc h) λ hw=> ?_
  have htop:=hw.top;have hpos:=hw.pos;obtain ⟨rfl,hC⟩:=hc;have hAC:∀g w,sat g w (R*Dev d s)->sat g w (C (Dev d s)):=λ g w h=>by rw [hC];exact h
  have hlw9:=hlw;obtain ⟨w1,w2,w3,w4,w5⟩:=hlw9;refine Zcl ?_;refine tl_c rfl (o_call bd162 rfl (ready11_c (s:=s) (hl:=hl))) ?_;refine Zgd ?_;refine tc_cond rfl (sbq ?_) (λ h=> ?_)
  . intro h;refine Zge ?_;have ho:=stE_off h;exact ⟨.int .i64 (stE s),C (Dev d s),res1 rfl rfl,hAC,stE s,s,by unfold clearS stE;rw [if_pos ho,if_pos ho],rfl,rfl⟩
  have ho:s.off=false:=stE_on (by simpa using h);refine Zhp ?_;refine tc_regh (S:=R) mo drqz ?_
  show TH _ _ _ _ _ 10 (Array.replicate 10 false) _ _
  refine Zq ?_;refine Zda ?_;refine Zem ?_;refine Zel ?_;refine th_one (i:=8) kqz ?_;refine oh_c rfl rfl rfl (o_call bd168 rfl (Publish_c (s:=s) (p:=(at_:Nat)) (v:=0))) ?_;rintro _ _ ⟨e17,s17,hs17,rfl,rfl⟩;refine Zjs ?_;refine Zba ?_;refine tc_ret ?_;exact ⟨.int .i64 e17,C (Dev d s17),res1 rfl rfl,λ _ _ h=>by rw [hC];exact h,e17,s17,by unfold clearS;rw [if_neg (by rw [ho];decide)];exact hs17,rfl,rfl⟩
end Go.Vl

/- What the row rests on, part 3: a calculus of assertions, walks of functions over it, and plain laws. Conditions: none. -/
import Derived.Deep.QuietTactic
import Derived.BigQuiet
import Derived.WalkKit
import Derived.Test.YtjmfhpoeaimidaaGreatProg
import Derived.OrdersHeld
import Derived.Shelf.SortM.SortNone
import Derived.Shelf.SortM.Plain
import Derived.Ground.SlgmProg
import Derived.Shelf.SlIterI.Nil
import Derived.Ground.GgzProg
import Derived.Maps.RangeRun
import Derived.Laws.BytesArg
import Derived.RangeFuncRecord
import Derived.TacticsIn
import Derived.Deep.Slices
import Derived.OpenShut
import Derived.ChangeArms
import Derived.SizedLaws
import Derived.ChangeSame
import Derived.Test.YtjmfhpoeaimidaaGreatRows
import Derived.Sort.QuietThIn
import Derived.ScopeJumps
import Derived.LaidEqlPtr
import Derived.MapKept
import Derived.Laws.Externs
import Derived.Lib.Builder
import Derived.Lib.UnsafeStr
import Derived.Laws.Strings
import Derived.Test.YtjmfhpoeaimidaaGreatMg2
set_option linter.unusedVariables false
set_option linter.unusedSimpArgs false
set_option maxRecDepth 100000
set_option maxHeartbeats 4000000
namespace Go.Vl
open Go Go.Proofs Go.Proofs.Tryz
theorem hbqz {p:Prop}(h:p:=by (repeat (first|assumption|with_reducible exact has_here|with_reducible exact has_pt|apply has_left))):p:=h
theorem haqz {p:Prop}(h:p:=by repeat (first|assumption|apply has_left)):p:=h
def lcs11 (d at_ sz:Nat):List Value:=[pz d,vn at_,vn sz]
def xcs (x:Int×Int):List Value:=[.int .i64 x.1,.int .i64 x.2]
structure XW (x:Int×Int):Prop where
  a: -9223372036854775808<=x.1/\ x.1<=9223372036854775807
  l: -9223372036854775808<=x.2/\ x.2<=9223372036854775807
def rndS (n:Nat):Int×Int:=if 9223372036854775807<n+pad8 n then (0,2) else (((up8 n:Nat):Int),0)
theorem wr_i64 {x:Int}(h: -9223372036854775808<=x/\ x<=9223372036854775807):IntKind.i64.wrap x=x:=by simp [IntKind.wrap,IntKind.bits,IntKind.signed];omega
theorem needF_cons {n:Nat}{l:List Int}{s:Int}(h:1<=n):needF ((n:Int)::l) s=if (rndS n).2≠0∨9223372036854775807-24-s<(rndS n).1 then (0,2) else needF l (s+24+(rndS n).1):=by
  have e:needF ((n:Int)::l) s=if (n:Int)<1 then (0,2) else if 9223372036854775807<(n:Int)+pad8 (n:Int).toNat then (0,2) else if 9223372036854775807-24-s<(n:Int)+pad8 (n:Int).toNat then (0,2) else needF l (s+24+((n:Int)+pad8 (n:Int).toNat)):=rfl;rw [e,if_neg oqz,Int.toNat_natCast]
  unfold rndS up8
  by_cases h1:9223372036854775807<n+pad8 n
  . rw [if_pos oqz,if_pos h1,if_pos (.inl (by decide))]
  rw [if_neg oqz,if_neg h1]
  by_cases h2:9223372036854775807-24-s<((n+pad8 n:Nat):Int)
  . rw [if_pos oqz,if_pos (.inr h2)]
  rw [if_neg oqz,if_neg (by simp only [ne_eq,not_true,false_or];exact h2)]
  congr 1
theorem needF_drop {xs:List Int}{i:Nat}(h:i<xs.length)(s:Int):needF (xs.drop i) s=needF (xs[i]::xs.drop (i+1)) s:=by rw [List.drop_eq_getElem_cons h]
theorem needF_bad {n:Int}{l:List Int}{s:Int}(h:n<1):needF (n::l) s=(0,2):=by
  show (if n<1 then _ else _)=_
  rw [if_pos h]
theorem Sum_2 {A:SP}{a a2:Option Addr}{m m2 c c2 b:Nat}{xs ys:List Nat}{E:TypeId}(h1:Rs A a (bys xs))(e1:xs.length=m)(hb:∀x∈xs,x<256)(hl:m<=1099511627776)(k1:Rs A a2 (bys ys))(k2:ys.length=m2)(kb:∀x∈ys,x<256)(kl:m2<=1099511627776):
    Fn Tryz.prog 184 #[.slice (some ⟨b,0,none⟩) 2 2] (A*pt b (cl [.slice a m c,.slice a2 m2 c2] E)) (λ r B=>r= .int .u32 ((crc 0 (xs++ys):Nat):Int)/\ A*pt b (cl [.slice a m c,.slice a2 m2 c2] E)=B):=by
  subst e1 k2;refine fn_rs (xs:=[.slice a xs.length c,.slice a2 ys.length c2]) rs_pt0 λ hr=> ?_
  refine fn_rs h1.left λ h1=> ?_
  refine fn_rs k1.left λ k1=> ?_
  have h:=Sum_c (c:=2) (ls:=[xs,ys]) ⟨_,rfl,hr,λ i hi=>by
    match i,hi with
    |0,_=>exact ⟨a,c,rfl,h1⟩
    |1,_=>exact ⟨a2,c2,rfl,k1⟩⟩ rfl (by intro l hl;simp at hl;rcases hl with rfl|rfl;exact hb;exact kb) (by intro l hm;simp at hm;rcases hm with rfl|rfl;exact hl;exact kl) (by show 2<=_;decide)
  rw [show crcs [xs,ys]=crc 0 (xs++ys) by rw [crc_app];rfl] at h
  exact h
attribute [local irreducible] crk crL crc Sl pt ro Dev imgS recS
theorem Zfk {p r:Prop}(k:r)(h:Kq r->p:=by intro k;refine tlm ?_;refine tv (o_lss rfl rfl) ?_;exact k.o):p:=h ⟨k⟩
theorem Zeh {p r:Prop}(k:r)(h:Kq r->p:=by intro k;refine tv (o_pick_f rfl wqz) ?_;refine Zz ?_;exact k.o):p:=h ⟨k⟩
theorem Round8_c {A:SP}{n:Nat}(hn:n<=9223372036854775807:=by omega):
    Fn Tryz.prog 183 #[vn n,.int .i64 8] A (λ r B=>r= .tuple #[.int .i64 (rndS n).1,.int .i64 (rndS n).2]/\ A=B):=by
  refine fn_enterW func183 rfl ntmps183 (by simp) ?_;refine Zc0 ?_;refine Zd3 ?_;refine tl_bool (d:=9) rfl dbq (sbq ?_);intro h;refine Zfk ?_;refine Zeh ?_;intro h;refine Zbq ?_;refine Zbc ?_;refine tv (o_remN (b:=8) rfl rfl (by decide)) ?_;refine tv (by first|exact o_subI rfl rfl oqz|exact o_sub rfl rfl) ?_;refine tl_env (d:=17) (v:=(vn (8-n%8))) (by show Value.int .i64 ((8:Int)-((n%8:Nat):Int))=_;congr 1;omega) ?_;refine tlm ?_;refine tv (o_remN (b:=8) rfl rfl (by decide)) ?_;refine Zp ?_;refine Zfp ?_;refine tl_env (d:=22) (v:=(vn (9223372036854775807-pad8 n))) (by have hp:pad8 n<8:=(by unfold pad8;omega);show Value.int .i64 ((9223372036854775807:Int)-((pad8 n:Nat):Int))=_;congr 1;omega) ?_;refine Zgj ?_;refine tc_cond rfl (λ h=> ?_) (λ h=> ?_)
  . have hp:pad8 n<8:=(by unfold pad8;omega);have hg:9223372036854775807<n+pad8 n:=(by first|omega|(simp at h;omega));refine sr ?_;refine Zdf ?_;have e:rndS n=(0,2):=(by unfold rndS;rw [if_pos hg]);rw [e]
    exact ⟨.tuple #[.int .i64 0,.int .i64 2],A,res2 rfl rfl rfl,Dr.sat drqz,rfl,rfl⟩
  have hp:pad8 n<8:=(by unfold pad8;omega);have hg:¬9223372036854775807<n+pad8 n:=(by first|omega|(simp at h;omega));refine Zbq ?_;refine Zbz ?_;refine tl_env (d:=26) (v:=(vn (up8 n))) (by show Value.int .i64 (IntKind.i64.wrap ((n+pad8 n:Nat):Int))=_;rw [wr_i64 oqz];rfl) ?_;refine Zdd ?_;have e:rndS n=(((up8 n:Nat):Int),0):=(by unfold rndS;rw [if_neg hg]);rw [e]
  exact ⟨.tuple #[vn (up8 n),.int .i64 0],A,res2 rfl rfl rfl,Dr.sat drqz,rfl,rfl⟩
theorem Zf0 {p r:Prop}(k:r)(h:Kq r->p:=by intro k;refine Zbl ?_;refine tv (o_len underlying22 rfl) ?_;exact k.o):p:=h ⟨k⟩
theorem Zck {p r:Prop}(k:r)(h:Kq r->p:=by intro k;refine Zf ?_;refine q_then_r (q_block_r (q_then_r (q_then_r (q_block_r (q_then_r ?_)))));exact k.o):p:=h ⟨k⟩
theorem Zc9 {p r:Prop}(k:r)(h:Kq r->p:=by intro k;refine tv (o_nei rfl rfl) ?_;refine tlm ?_;exact k.o):p:=h ⟨k⟩
theorem Zb5 {p r:Prop}(k:r)(h:Kq r->p:=by intro k;refine tv (o_gtr rfl rfl) ?_;refine tv (o_pick_f rfl wqz) ?_;exact k.o):p:=h ⟨k⟩
theorem Zfs {p r:Prop}(k:r)(h:Kq r->p:=by intro k;refine tv (o_subI rfl rfl oqz) ?_;refine Zb5 ?_;exact k.o):p:=h ⟨k⟩
theorem Zgo {p r:Prop}(k:r)(h:Kq r->p:=by intro k;refine tv adqz ?_;refine Za ?_;exact k.o):p:=h ⟨k⟩
theorem Need_c {A:SP}{a:Option Addr}{c m:Nat}{xs:List Int}(hr:Rs A a (ints xs):=by exact rbqz)(hm:xs.length=m:=by first|assumption|rfl)(hx:∀x∈xs,-9223372036854775808<=x/\ x<=9223372036854775807:=by assumption)(hml:m<=4611686018427387904:=by omega):
    Fn Tryz.prog 161 #[.slice a m c] A (λ r B=>r= .tuple #[.int .i64 (needS xs).1,.int .i64 (needS xs).2]/\ A=B):=by
  refine fn_enterW func161 rfl ntmps161 (by simp) ?_;refine sr ?_;refine tla ?_;refine Za ?_;refine Zf0 ?_;refine Zet ?_;refine tc_loop (λ kk ρ BB=>∃ (i:Nat) (sm:Int),(i<=m)/\ (needF (xs.drop i) sm=needS xs)/\ (0<=sm/\ sm<=9223372036854775807)/\ kk=m-i/\ ρ 4= .int .i64 sm/\ ρ 11=(vn i)/\ ρ 9= .slice a m c/\ ρ 10=(vn m)/\ BB=A) (m:=m-(0)) ?_ ?_
  . exact ⟨0,0,by omega,rfl,by omega,rfl,rfl,rfl,rfl,rfl,rfl⟩
  intro k ρ B hI;obtain ⟨i,sm,hp0,hp1,hp2,hkk1,hE4,hE11,hE9,hE10,hBA⟩:=hI;obtain rfl:=hBA.symm;refine te 4 hE4 ?_;refine te 11 hE11 ?_;refine te 9 hE9 ?_;refine te 10 hE10 ?_;refine Zcf ?_;refine tc_cond rfl (λ h=> ?_) (λ h=> ?_)
  . have hi:i<xs.length:=(by first|omega|(simp at h;omega));obtain ⟨x,hx1⟩:∃x,xs[i]=x:=⟨_,rfl⟩;have hxb:=hx x (hx1▸List.getElem_mem hi);have hnd:=needF_drop hi sm;rw [hx1] at hnd
    obtain ⟨hsm0,hsm1⟩:=hp2;refine Zec ?_;refine tv (o_ixP1 underlying22 sz3 rfl rfl oqz (nn_rs hr (by rw [ints_length];omega))) ?_;refine tv (o_ldP p3 rfl hr (ints_at hi)) ?_;refine tl_env (d:=14) (v:= .int .i64 x) (by show Value.int .i64 xs[i]=_;rw [hx1]) ?_;refine Zp ?_;refine Zq ?_;refine tc_cond rfl (λ h=> ?_) (λ h=> ?_)
    . have g16:(x<1):=(by first|exact of_decide_eq_true h|(have h2:=h;simp at h2;omega)|simpa using h);refine sr ?_;refine tla ?_;refine Zck ?_;have e:needS xs=(0,2):=(by rw [←hp1,hnd];first|exact needF_bad g16|rw [needF_cons hq1,if_pos hng]);rw [e]
      exact ⟨.tuple #[.int .i64 0,.int .i64 2],A,res2 rfl rfl rfl,Dr.sat drqz,rfl,rfl⟩
    have g16:¬(x<1):=(by first|exact of_decide_eq_false h|(have h2:=h;simp at h2;omega)|simpa using h);refine Zbq ?_;obtain ⟨q,rfl⟩:=Int.eq_ofNat_of_zero_le (show 0<=x by omega);have hq1:1<=q:=(by omega);have hqr:(rndS q).1<=9223372036854775807/\ 0<=(rndS q).1:=(by unfold rndS up8;split<;>simp<;>omega);refine tl_c rfl (o_call bd183 rfl (Round8_c (n:=q))) ?_;rintro _ _ ⟨rfl,rfl⟩;refine Zdc ?_;refine Zc9 ?_;refine tl_bool (d:=24) rfl (λ h=> ?_) (λ h=> ?_)
    . have hng:(rndS q).2≠0∨9223372036854775807-24-sm<(rndS q).1:= .inl (by first|exact of_decide_eq_true h|(simp at h;omega));refine Zb3 ?_;refine tv (o_pick_t rfl wqz) ?_;refine nq ?_;refine tc_cond_t rfl ?_;refine sr ?_;refine tla ?_;refine Zck ?_;have e:needS xs=(0,2):=(by rw [←hp1,hnd];first|exact needF_bad g16|rw [needF_cons hq1,if_pos hng]);rw [e]
      exact ⟨.tuple #[.int .i64 0,.int .i64 2],A,res2 rfl rfl rfl,Dr.sat drqz,rfl,rfl⟩
    have h24:(rndS q).2=0:=(by first|(have h9:=of_decide_eq_false h;omega)|(simp at h;omega));refine Zbc ?_;refine Zfs ?_;refine nq ?_;refine tc_cond rfl (λ h=> ?_) (λ h=> ?_)
    . have hng:(rndS q).2≠0∨9223372036854775807-24-sm<(rndS q).1:=(by first|assumption|exact .inr (by first|omega|(simp at h;omega)));refine sr ?_;refine tla ?_;refine Zck ?_;have e:needS xs=(0,2):=(by rw [←hp1,hnd];first|exact needF_bad g16|rw [needF_cons hq1,if_pos hng]);rw [e]
      exact ⟨.tuple #[.int .i64 0,.int .i64 2],A,res2 rfl rfl rfl,Dr.sat drqz,rfl,rfl⟩
    have hn9:¬9223372036854775807-24-sm<(rndS q).1:=(by first|omega|(simp at h;omega));have hng:¬((rndS q).2≠0∨9223372036854775807-24-sm<(rndS q).1):=(by omega);refine Zbq ?_;refine Zgo ?_;refine Zw ?_;refine Zbz ?_;refine Zgq ?_;exact ⟨_,by omega,i+1,_,by omega,by rw [←hp1,hnd,needF_cons hq1,if_neg hng],by omega,rfl,rfl,rfl,rfl,rfl,rfl⟩
  obtain rfl:i=m:=by first|omega|(simp at h;omega)
  refine Zda ?_;refine Zdd ?_;have e:needS xs=(sm,0):=(by rw [←hp1,List.drop_eq_nil_of_le oqz];rfl);rw [e]
  exact ⟨.tuple #[.int .i64 sm,.int .i64 0],A,res2 rfl rfl rfl,Dr.sat drqz,rfl,rfl⟩
theorem Zc3 {p r:Prop}(k:r)(h:Kq r->p:=by intro k;refine tv (o_fieldAddr (o:=0) underlying183 rfl rfl sz28 rfl) ?_;refine tv (o_load p28 rfl haqz rfl) ?_;exact k.o):p:=h ⟨k⟩
theorem Zc1 {p r:Prop}(k:r)(h:Kq r->p:=by intro k;refine Za ?_;refine tc_seq ?_;exact k.o):p:=h ⟨k⟩
theorem Zgp {p r:Prop}(k:r)(h:Kq r->p:=by intro k;refine Zc1 ?_;refine tc_seq ?_;exact k.o):p:=h ⟨k⟩
theorem Zbn {p r:Prop}(k:r)(h:Kq r->p:=by intro k;refine tv (o_fieldAddr (o:=1) underlying195 rfl rfl sz3 rfl) ?_;refine tv (by first|exact o_load p3 rfl hsqz rfl|exact o_loadC p3 rfl (by assumption)) ?_;exact k.o):p:=h ⟨k⟩
theorem Zf2 {p r:Prop}(k:r)(h:Kq r->p:=by intro k;refine Zdx ?_;refine tlm ?_;exact k.o):p:=h ⟨k⟩
theorem Zbo {p r:Prop}(k:r)(h:Kq r->p:=by intro k;refine tv (o_fieldAddr (o:=0) underlying195 rfl rfl sz3 rfl) ?_;refine tv (by first|exact o_load p3 rfl hsqz rfl|exact o_loadC p3 rfl (by assumption)) ?_;exact k.o):p:=h ⟨k⟩
theorem Zfd {p r:Prop}(k:r)(h:Kq r->p:=by intro k;refine ql_v rfl (o_fieldAddr (o:=0) underlying195 rfl rfl sz3 rfl) ?_;refine ql_v rfl (by first|exact o_load p3 rfl hsqz rfl|exact o_loadC p3 rfl (by assumption)) ?_;exact k.o):p:=h ⟨k⟩
theorem Zcv {p r:Prop}(k:r)(h:Kq r->p:=by intro k;refine ql_v rfl (o_move wqz) ?_;refine ql_v rfl (o_nilCheck rfl) ?_;exact k.o):p:=h ⟨k⟩
theorem Zcw {p r:Prop}(k:r)(h:Kq r->p:=by intro k;refine ql_v rfl (o_fieldAddr (o:=1) underlying183 rfl rfl sz3 rfl) ?_;refine ql_v rfl (o_load p3 rfl haqz rfl) ?_;exact k.o):p:=h ⟨k⟩
theorem Zbd {p r:Prop}(k:r)(h:Kq r->p:=by intro k;refine ql_skip rfl ?_;refine ql_skip rfl ?_;exact k.o):p:=h ⟨k⟩
theorem Zfo {p r:Prop}(k:r)(h:Kq r->p:=by intro k;refine Zbd ?_;refine Zbd ?_;exact k.o):p:=h ⟨k⟩
theorem Zcg {p r:Prop}(k:r)(h:Kq r->p:=by intro k;refine ql_v rfl (o_assign wqz) ?_;refine ql_nil ?_;exact k.o):p:=h ⟨k⟩
theorem Zf7 {p r:Prop}(k:r)(h:Kq r->p:=by intro k;refine Zcg ?_;refine q_then_n ?_;exact k.o):p:=h ⟨k⟩
theorem may11_c {A R:SP}{C:SP->SP}{d:Nat}{s:DevS}(hc:Ct A (Dev d s) R C:=by exact cbqz){bl at_ sz:Nat}(hl:Has A bl (cl (lcs11 d at_ sz) 183):=by exact hbqz){x:Int×Int}(hx:XW x:=by assumption)(hlw:LogW (s.ls.length*64) at_ sz:=by assumption):
    Fn Tryz.prog 160 #[pz bl,.agg (xcs x).toArray] A (λ r B=>r= .bool (mayX (s.ls.length*64) at_ sz x)/\ A=B):=by
  refine fn_enterW func160 rfl ntmps160 (by simp) ?_;refine tc_have (λ _ _ h=>ct_wf2 hc h) λ hw=> ?_
  have htop:=hw.top;have hpos:=hw.pos;obtain ⟨rfl,hC⟩:=hc;obtain ⟨⟨hx1,hx2⟩,⟨hx3,hx4⟩⟩:=hx;obtain ⟨w1,w2,w3,w4,w5⟩:=hlw;refine Zcc ?_;rintro _ _ ⟨b3,rfl,rfl⟩;refine Zs ?_;refine tv (o_nilCheck rfl) ?_;refine Zc3 ?_;refine tl_c rfl (o_call bd73 rfl (Size_c (s:=s))) ?_;rintro _ _ ⟨rfl,rfl⟩;refine Zgp ?_;refine tc_cut (λ ρ BB=>∃ (bb:Bool),(bb=decide (¬(1<=x.2/\ 64<=x.1/\ x.1<=(s.ls.length:Int)*64/\ x.2<=(s.ls.length:Int)*64-x.1)))/\ ρ 33= .bool bb/\ ρ 0=(pz bl)/\ ρ 3=(pz b3)/\ BB=R*Dev d s*pt b3 (cl (xcs x) 195)) ?_ ?_
  . skip
    refine tc_reg ?_;refine Zbn ?_;refine Zd3 ?_;refine tl_bool (d:=14) rfl (λ h=> ?_) (λ h=> ?_)
    . have g14:(x.2<1):=(by first|exact of_decide_eq_true h|(have h2:=h;simp at h2;omega)|simpa using h);refine Zf2 ?_;refine Zb3 ?_;refine Zca ?_;refine Zb3 ?_;refine Zdx ?_;refine tl_nil ?_;exact ⟨_,by first|exact (decide_eq_true oqz).symm|exact (decide_eq_false oqz).symm|(rw [decide_eq_decide];omega),rfl,rfl,rfl,rfl⟩
    have g14:¬(x.2<1):=(by first|exact of_decide_eq_false h|(have h2:=h;simp at h2;omega)|simpa using h);refine Zbo ?_;refine tv (o_lss rfl rfl) ?_;refine Zbb ?_;refine tl_bool (d:=19) rfl (λ h=> ?_) (λ h=> ?_)
    . have g19:(x.2<1∨x.1<64):=(by first|exact of_decide_eq_true h|(have h2:=h;simp at h2;omega)|simpa using h);refine Zb3 ?_;refine Zca ?_;refine Zb3 ?_;refine Zdx ?_;refine tl_nil ?_;exact ⟨_,by first|exact (decide_eq_true oqz).symm|exact (decide_eq_false oqz).symm|(rw [decide_eq_decide];omega),rfl,rfl,rfl,rfl⟩
    have g19:¬(x.2<1∨x.1<64):=(by first|exact of_decide_eq_false h|(have h2:=h;simp at h2;omega)|simpa using h);refine Zbo ?_;refine tlm ?_;refine tv (o_gtr rfl rfl) ?_;refine Zbb ?_;refine tl_bool (d:=25) rfl (λ h=> ?_) (λ h=> ?_)
    . have g25:(x.2<1∨x.1<64∨(s.ls.length:Int)*64<x.1):=(by first|exact of_decide_eq_true h|(have h2:=h;simp at h2;omega)|simpa using h);refine Zb3 ?_;refine Zdx ?_;refine tl_nil ?_;exact ⟨_,by first|exact (decide_eq_true oqz).symm|exact (decide_eq_false oqz).symm|(rw [decide_eq_decide];omega),rfl,rfl,rfl,rfl⟩
    have g25:¬(x.2<1∨x.1<64∨(s.ls.length:Int)*64<x.1):=(by first|exact of_decide_eq_false h|(have h2:=h;simp at h2;omega)|simpa using h);refine Zbn ?_;refine tlm ?_;refine Zbo ?_;refine Zfs ?_;refine tl_nil ?_;exact ⟨_,by first|exact (decide_eq_true oqz).symm|exact (decide_eq_false oqz).symm|(rw [decide_eq_decide];omega),rfl,rfl,rfl,rfl⟩
  intro ρ B hI;obtain ⟨bb,hbb0,hE33,hE0,hE3,rfl⟩:=hI;refine q_then_n ?_;refine te 33 hE33 ?_;refine te 0 hE0 ?_;refine te 3 hE3 ?_;refine tc_cond rfl (λ h=> ?_) (λ h=> ?_)
  . have hf:=of_decide_eq_true (show decide (¬(1<=x.2/\ 64<=x.1/\ x.1<=(s.ls.length:Int)*64/\ x.2<=(s.ls.length:Int)*64-x.1))=true by rw [←hbb0];exact h);refine Zdb ?_;have e:mayX (s.ls.length*64) at_ sz x=false:=decide_eq_false oqz;rw [e]
    exact ⟨.bool false,_,res1 rfl rfl,Dr.sat drqz,rfl,rfl⟩
  have hf:(1<=x.2/\ 64<=x.1/\ x.1<=(s.ls.length:Int)*64/\ x.2<=(s.ls.length:Int)*64-x.1):=(by have h9:=of_decide_eq_false (show decide (¬(1<=x.2/\ 64<=x.1/\ x.1<=(s.ls.length:Int)*64/\ x.2<=(s.ls.length:Int)*64-x.1))=false by rw [←hbb0];exact h);omega);refine Zcu ?_;refine tc_regq mo kqz ?_;refine Zfd ?_;refine ql_v rfl (o_fieldAddr (o:=1) underlying195 rfl rfl sz3 rfl) ?_;refine ql_v rfl (by first|exact o_load p3 rfl hsqz rfl|exact o_loadC p3 rfl (by assumption)) ?_;refine ql_v rfl (o_addI rfl rfl oqz) ?_;refine Zcv ?_;refine Zcw ?_;refine ql_v rfl (o_leq rfl rfl) ?_;refine ql_v rfl (o_move wqz) ?_;refine ql_bool (d:=44) rfl (λ h=> ?_) (λ h=> ?_)
  . have g44:(x.1+x.2<=at_):=(by first|exact of_decide_eq_true h|(have h2:=h;simp at h2;omega)|simpa using h);refine Zfo ?_;refine Zfo ?_;refine Zfo ?_;refine ql_v rfl (o_pick_t rfl wqz) ?_;refine Zf7 ?_;refine tc_ret ?_;have e:∀b,b=decide (x.1+x.2<=at_∨((at_+sz:Nat):Int)<=x.1)->mayX (s.ls.length*64) at_ sz x=b:=λ b hb=>by rw [hb];unfold mayX;rw [decide_eq_decide];omega
    exact ⟨.bool (mayX (s.ls.length*64) at_ sz x),_,res1 rfl (congrArg Value.bool (e _ (by first|exact (decide_eq_true oqz).symm|exact (decide_eq_false oqz).symm|(rw [decide_eq_decide];omega)))).symm,Dr.sat drqz,rfl,rfl⟩
  have g44:¬(x.1+x.2<=at_):=(by first|exact of_decide_eq_false h|(have h2:=h;simp at h2;omega)|simpa using h);refine Zfd ?_;refine Zcv ?_;refine Zcw ?_;refine Zcv ?_;refine ql_v rfl (o_fieldAddr (o:=2) underlying183 rfl rfl sz3 rfl) ?_;refine ql_v rfl (o_load p3 rfl haqz rfl) ?_;refine ql_v rfl (o_addI rfl rfl oqz) ?_;refine ql_v rfl (o_geq rfl rfl) ?_;refine ql_v rfl (o_pick_f rfl wqz) ?_;refine Zf7 ?_;refine tc_ret ?_;have e:∀b,b=decide (x.1+x.2<=at_∨((at_+sz:Nat):Int)<=x.1)->mayX (s.ls.length*64) at_ sz x=b:=λ b hb=>by rw [hb];unfold mayX;rw [decide_eq_decide];omega
  exact ⟨.bool (mayX (s.ls.length*64) at_ sz x),_,res1 rfl (congrArg Value.bool (e _ (by first|exact (decide_eq_true oqz).symm|exact (decide_eq_false oqz).symm|(rw [decide_eq_decide];omega)))).symm,Dr.sat drqz,rfl,rfl⟩
theorem Zex {p r:Prop}(k:r)(h:Kq r->p:=by intro k;refine tlm ?_;refine tv (o_len underlying32 rfl) ?_;exact k.o):p:=h ⟨k⟩
theorem record_c {A:SP}{a:Option Addr}{c m p:Nat}{xs:List Nat}(hr:Rs A a (bys xs):=by exact rbqz)(hm:xs.length=m:=by first|assumption|rfl)(hb:∀x∈xs,x<256:=by assumption)(hp:p<9223372036854775808:=by omega)(hml:m<=1099511627776:=by omega):
    Fn Tryz.prog 162 #[vn p,.slice a m c] A (λ r B=>∃a2 c2,r= .slice a2 (24+up8 m) c2/\ 24+up8 m<=c2/\ B=A*Sl 1 (.slice a2 (24+up8 m) c2) (24+up8 m) (bys (recS p xs))):=by
  refine fn_enterW func162 rfl ntmps162 (by simp) ?_;obtain ⟨Z,hZ⟩:∃Z,crc 0 (recH p m++xs)=Z:=⟨_,rfl⟩;have hZb:∀x∈recH p m++xs,x<256:=λ x hx=>by rcases List.mem_append.1 hx with h1|h1;exact recH_b _ _ x h1;exact hb x h1
  have hZl:Z<4294967296:=hZ▸crc_lt (by decide) hZb
  obtain ⟨Y,hY⟩:∃Y,recH p m++le 8 Z++xs=Y:=⟨_,rfl⟩;have hYl:Y.length=24+m:=(by rw [←hY,List.length_append,List.length_append,recH_len,le_length,hm]);have hYr:recS p xs=Y++List.replicate (pad8 m) 0:=(by rw [←hY,←hZ,←hm];exact recS_eq _ _);refine Zds ?_;refine tv (by first|exact o_conv64 underlying3 underlying36 rfl|exact o_conv underlying3 underlying36 rfl) ?_;refine tl_env (d:=7) (v:= .int .u64 ((p:Nat):Int)) (congrArg (λ z:Nat=>Value.int .u64 (z:Int)) (Nat.mod_eq_of_lt oqz)) ?_;refine tl_c rfl (o_call bd136 rfl (Put64_c (xs:=[]) (v:=p))) ?_;rintro _ _ ⟨a8,c8,rfl,hc8,rfl⟩;refine Zex ?_;refine tv (by first|exact o_conv64 underlying3 underlying36 rfl|exact o_conv underlying3 underlying36 rfl) ?_;refine tl_env (d:=11) (v:= .int .u64 ((m:Nat):Int)) (congrArg (λ z:Nat=>Value.int .u64 (z:Int)) (Nat.mod_eq_of_lt oqz)) ?_;refine tl_c rfl (o_call bd136 rfl (Put64_c (m:=8) (xs:=[]++le 8 p) (v:=m) (hr:=rs_sl) (hm:=by rw [List.nil_append,le_length]))) ?_;rintro _ _ ⟨a12,c12,rfl,hc12,rfl⟩;refine Zs ?_;refine Zbc ?_;refine tl_x rfl (o_buildSliceL (k:=1) (vs:=[.slice a12 (8+8) c12,.slice a m c]) (l:=[.slice a12 (8+8) c12,.slice a m c]) underlying35 sz32 z32 rfl rfl (by decide) (by decide) (by intro v hv;simp at hv;rcases hv with rfl|rfl<;>rfl) rfl) ?_;rintro _ _ ⟨b16,rfl,rfl⟩;refine tl_c rfl (o_call bd184 rfl (Sum_2 (xs:=recH p m) (ys:=xs) rs_sl (recH_len _ _) (recH_b _ _) (by decide) hr.left.left hm hb hml)) ?_;rintro _ _ ⟨rfl,rfl⟩;refine tv (by first|exact o_conv64 underlying237 underlying36 rfl|exact o_conv underlying237 underlying36 rfl) ?_;refine tl_env (d:=18) (v:= .int .u64 ((crc 0 (recH p m++xs):Nat):Int)) (congrArg (λ z:Nat=>Value.int .u64 (z:Int)) (Nat.mod_eq_of_lt oqz)) ?_;refine tl_c rfl (o_call bd136 rfl (Put64_c)) ?_;rintro _ _ ⟨a19,c19,rfl,hc19,rfl⟩;refine Zs ?_;refine tlm ?_;refine tl_x rfl (o_apR underlying32 underlying32 sz5 by5 z5 rfl (by decide) (by decide) rfl rfl ctqz (by repeat (first|assumption|with_reducible exact rs_sl|with_reducible exact rs_pt0|exact rs_none|apply Rs.left)) sq0z (by first|exact bys_all _|exact ints_all _|exact wds_all _|exact bos_all _|rfl) sq0z (by first|exact bys_sn _ _|exact ints_sn _ _|exact wds_sn _ _|exact bos_sn _ _|exact (bys_append _ _).symm|rfl)) ?_;rintro _ _ ⟨a22,c22,rfl,hc22,rfl⟩;refine Za ?_;refine Zr ?_;refine tc_pre (A':=A*Sl 1 (.slice a22 (24+m+0) c22) (24+m+0) (bys (Y++List.replicate 0 0))) (λ g w h=>by have h2:=Dr.sat (A':=A*Sl 1 (.slice a22 (8+8+8+m) c22) (8+8+8+m) (bys ([]++le 8 p++le 8 m++le 8 (crc 0 (recH p m++xs)))++bys xs)) drqz g w h;rw [hZ,←bys_append,show []++le 8 p++le 8 m++le 8 Z++xs=Y from hY] at h2;rw [show 24+m+0=8+8+8+m by omega,List.replicate_zero,List.append_nil];exact h2) ?_;refine tc_loop (λ kk ρ BB=>∃ (i:Nat) (a5:Option Addr) (c5:Nat),(i<=pad8 m)/\ (24+m+i<=c5)/\ kk=pad8 m-i/\ ρ 5= .slice a5 (24+m+i) c5/\ Dr BB (A*Sl 1 (.slice a5 (24+m+i) c5) (24+m+i) (bys (Y++List.replicate i 0)))) (m:=pad8 m-(0)) ?_ ?_
  . exact ⟨0,a22,c22,by omega,by omega,rfl,by rw [show 24+m+0=8+8+8+m by omega];rfl,drqz⟩
  intro k ρ B hI;obtain ⟨i,a5,c5,hp0,hp1,hkk1,hE5,hBA⟩:=hI;refine tc_pre hBA.sat ?_;clear hBA;refine te 5 hE5 ?_;refine Ze ?_;refine tv (o_len underlying32 rfl) ?_;refine tv (o_remN (b:=8) rfl rfl (by decide)) ?_;refine tl_env (d:=25) (v:= .int .i64 (((24+m+i)%8:Nat):Int)) (by first|rfl|(show Value.int .i64 _=_;congr 1;omega)) ?_;refine Zk ?_;refine tc_cond rfl (λ h=> ?_) (λ h=> ?_)
  . have hi:i<pad8 m:=(by have h9:(24+m+i)%8≠0:=(by first|omega|(simp at h;omega));unfold pad8 at*;omega);have hi8:i<8:=(by have:pad8 m<8:=(by unfold pad8;omega);omega);refine Zgg ?_;refine Zw ?_;refine tl_x rfl (o_buildSliceL (k:=1) (vs:=bys [0]) (l:=bys [0]) underlying32 sz5 z5 rfl rfl (by decide) (by decide) (by intro v hv;simp only [bys,b8,List.map_cons,List.map_nil,List.mem_cons,List.not_mem_nil,or_false] at hv;rcases hv with rfl;rfl) rfl) ?_;rintro _ _ ⟨b28,rfl,rfl⟩;refine tl_x rfl (o_apB underlying32 underlying32 sz5 by5 z5 rfl (by decide) (by decide) rfl rfl rfl ctqz rfl rfl oqz (show _=bys (Y++List.replicate i 0++[0]) by rw [←bys_append])) ?_;rintro _ _ ⟨a29,c29,rfl,hc29,rfl⟩;refine Ze2 ?_;refine q_block_n (q_then_n ?_);exact ⟨_,by omega,i+1,a29,c29,by omega,by omega,rfl,rfl,by rw [List.replicate_succ',←List.append_assoc];repeat (first|with_reducible exact dr_refl|apply dr_keep|apply dr_drop)⟩
  obtain rfl:i=pad8 m:=by have h9:(24+m+i)%8=0:=(by first|omega|(simp at h;omega));unfold pad8 at*;omega
  refine Zda ?_;refine Zf ?_;rw [hYr,show 24+up8 m=24+m+pad8 m by unfold up8;omega]
  exact ⟨_,_,res1 rfl rfl,λ _ _ h=>h,a5,c5,rfl,hp1,rfl⟩
end Go.Vl

namespace Go.Vl
open Go Go.Proofs Go.Proofs.Tryz
structure RL where
  v:Value
  rows:List (Value×List Nat)
  mark:Int
def RL.l (x:RL):LineS:=⟨x.rows.map Prod.snd,x.mark⟩
def rcl (x:RL):List Value:=[x.v,.int .i64 x.mark]
def rowR (p:Value×List Nat):SP:=SlR 1 p.1 64 (bys (lb p.2))
def rlR (x:RL):SP:=Sl 1 x.v x.rows.length (x.rows.map Prod.fst)*Bs rowR x.rows
def rdcs (lv:Value)(s:DevS)(av:Value):List Value:=[vn (s.ls.length*64),lv,.int .i64 s.ops,av,.int .i64 s.cnt,.bool s.off]
def RDevC (r:Nat)(lv:Value)(rls:List RL)(av:Value)(kvs:List Value)(s:DevS):SP:=
  pt r (cl (rdcs lv s av) 147)*Sl 2 lv s.ls.length (rls.flatMap rcl)*Bs rlR rls*ArmsR av kvs s.arms
def RDev (r:Nat)(s:DevS):SP:=λ h=>WfD s/\∃lv rls av kvs,rls.map RL.l=s.ls/\ kvs.length=s.arms.length/\ RDevC r lv rls av kvs s h
section
variable {P:Program} {n:Nat} {Q:Post} {ρ:Env} {r:Nat} {s:DevS} {R:SP}
end
section
variable {r:Nat} {s:DevS} {R F:SP} {lv av:Value} {rls:List RL} {kvs:List Value}
structure RdevR (A:SP) (r:Nat) (lv:Value) (rls:List RL) (av:Value) (s:DevS):Prop where
  wf:WfD s
  len:rls.length=s.ls.length
  at_:∀i (h:i<rls.length) (h':i<s.ls.length),rls[i].l=s.ls[i]
  d:Rs A (some ⟨r,0,none⟩) (rdcs lv s av)
  lv:∃b o c,lv= .slice (some ⟨b,o,none⟩) s.ls.length c/\ s.ls.length<=c/\ Rs A (some ⟨b,o,none⟩) (rls.flatMap rcl)
  all:∀i (h:i<rls.length),∃b o c,rls[i].v= .slice (some ⟨b,o,none⟩) rls[i].rows.length c/\ rls[i].rows.length<=c/\ Rs A (some ⟨b,o,none⟩) (rls[i].rows.map Prod.fst)
  row:∀i (h:i<rls.length) j (h':j<rls[i].rows.length),∃b o c,rls[i].rows[j].1= .slice (some ⟨b,o,none⟩) 64 c/\ 64<=c/\ Rs A (some ⟨b,o,none⟩) (bys (lb rls[i].rows[j].2))
theorem RdevR.left {A X:SP}(h:RdevR A r lv rls av s):RdevR (A*X) r lv rls av s:=
  ⟨h.wf,h.len,h.at_,h.d.left,let ⟨b,o,c,e1,e2,e3⟩:=h.lv;⟨b,o,c,e1,e2,e3.left⟩,λ i hi=>let ⟨b,o,c,e1,e2,e3⟩:=h.all i hi;⟨b,o,c,e1,e2,e3.left⟩,
    λ i hi j hj=>let ⟨b,o,c,e1,e2,e3⟩:=h.row i hi j hj;⟨b,o,c,e1,e2,e3.left⟩⟩
theorem RdevR.rows {A:SP}(h:RdevR A r lv rls av s){i:Nat}(hi:i<rls.length)(hi':i<s.ls.length):rls[i].rows.length=s.ls[i].st.length:=by
  rw [←h.at_ i hi hi'];simp [RL.l]
theorem RdevR.snd {A:SP}(h:RdevR A r lv rls av s){i j:Nat}(hi:i<rls.length)(hi':i<s.ls.length)(hj:j<rls[i].rows.length):rls[i].rows[j].2=s.ls[i].st[j]'(by rw [←h.rows hi hi'];exact hj):=by
  have:=h.at_ i hi hi';have e:s.ls[i].st=rls[i].rows.map Prod.snd:=(by rw [←this];rfl)
  simp only [e,List.getElem_map]
theorem RdevR.mark {A:SP}(h:RdevR A r lv rls av s){i:Nat}(hi:i<rls.length)(hi':i<s.ls.length):rls[i].mark=s.ls[i].mark:=by rw [←h.at_ i hi hi'];rfl
end
section
variable {A:SP} {r:Nat} {lv av:Value} {rls:List RL} {s:DevS}
theorem RdevR.pos (h:RdevR A r lv rls av s){i:Nat}(hi:i<rls.length):0<rls[i].rows.length:=by
  have h':i<s.ls.length:=(by rw [←h.len];exact hi);rw [h.rows hi h']
  exact List.length_pos_iff.2 (h.wf.line _ (List.getElem_mem h')).ne
theorem RdevR.small (h:RdevR A r lv rls av s){i:Nat}(hi:i<rls.length):rls[i].rows.length<=2199023255552:=by
  have h':i<s.ls.length:=(by rw [←h.len];exact hi);rw [h.rows hi h']
  exact (h.wf.line _ (List.getElem_mem h')).small
theorem RdevR.top (h:RdevR A r lv rls av s){i:Nat}(hi:i<rls.length)(hi':i<s.ls.length):∃b o c,(rls[i].rows.map Prod.fst)[rls[i].rows.length-1]? =some (.slice (some ⟨b,o,none⟩) 64 c)/\ 64<=c/\ Rs A (some ⟨b,o,none⟩) (bys (lb (seenL s.ls[i]))):=by
  have hp:=h.pos hi;obtain ⟨b,o,c,e1,e2,e3⟩:=h.row i hi (rls[i].rows.length-1) oqz;refine ⟨b,o,c, ?_,e2, ?_⟩
  . rw [List.getElem?_map,List.getElem?_eq_getElem oqz];simp [e1]
  rw [h.snd hi hi' oqz] at e3
  have e:seenL s.ls[i]=s.ls[i].st[rls[i].rows.length-1]'(by rw [←h.rows hi hi'];omega):=by
    unfold seenL;simp only [←h.rows hi hi']
    simp [List.getD,show rls[i].rows.length-1<s.ls[i].st.length by rw [←h.rows hi hi'];omega]
  rw [e];exact e3
end
attribute [local irreducible] Sl pt ro imgS
end Go.Vl

namespace Go.Vl
open Go Go.Proofs Go.Proofs.Tryz
theorem bys_rep (k:Nat):List.replicate k (.int .u8 0)=bys (List.replicate k 0):=by simp [bys,b8]
attribute [local irreducible] Sl pt ro
end Go.Vl

namespace Go.Vl
open Go Go.Proofs Go.Proofs.Tryz
theorem Foc.words {A A':SP}{hvs:List Value}{held:List (List Nat)}(h:Foc A (Words hvs held) (Words hvs held) A')(hl:hvs.length=held.length){g:Gh}{w:World}(hs:sat g w A):
    ∀i (hi:i<held.length),∃a c,hvs[i]? =some (.slice a held[i].length c)/\ Rd A a (wds held[i]):=λ i hi=>by
  obtain ⟨R,hA,_⟩:=h;obtain ⟨S,h1,_⟩:=words_get hl hi;rw [h1,←star_assoc] at hA
  obtain ⟨a,c,e,_,_,hr⟩:=sl_have' hA hs;exact ⟨a,c,by rw [List.getElem?_eq_getElem oqz,e],hr⟩
structure Lasts (P:PlS) (s2:DevS):Prop where
  len:s2.ls.length=P.marks.length
  wf:WfD s2
  wfp:WfD P.s
  seen:∀i (h:i<P.seen.length),nm (((imgS P.s).drop (8*i)).take 8)=P.seen[i]
  held:∀i (h:i<P.held.length),nm (((imgS s2).drop (8*i)).take 8)∈P.held[i]
  last:∀i (h:i<P.sure.length) (h':i<P.last.length),P.sure[i]=true->nm (((imgS s2).drop (8*i)).take 8)=P.last[i]
structure InvL (P:PlS) (w:Nat) (l:LineS):Prop where
  seen:(seenL l).getD (w%8) 0=P.seen.getD w 0
  held:∀σ∈l.st,σ.getD (w%8) 0∈P.held.getD w []
  last:P.sure.getD w false=true->∀σ∈l.st,σ.getD (w%8) 0=P.last.getD w 0
  mark:P.marks.getD (w/8) 0=1->l.mark=(l.st.length:Int)-1
def Inv (P:PlS):Prop:=∀w l,w<P.seen.length->P.s.ls[w/8]? =some l->InvL P w l
instance:Inhabited StepC:=⟨⟨0,0,.bool false,0,.bool false,.bool false,.bool false⟩⟩
section
variable {P:Program} {n:Nat} {ρ:Env} {dst:Option Nat} {ty:TypeId} {pos:String} {after:Array Edge} {gd:Option (Nat×Bool)} {A:SP}
end
def rdT (n:Nat)(I:List Nat):List Int×Int:=if I.take 64=sbB [n,128,32768,32896,(n-32896)/256,0] then ([(n:Int),((128:Nat):Int),((32768:Nat):Int),((32896:Nat):Int),(((n-32896)/256:Nat):Int)],0) else ([0,0,0,0,0],100)
def wk1:DevS:=(bytesP 60 [1,1,1,1,1,1,1,1] (newS 2)).2
def wk2:DevS:=(pubP 8 258 wk1).2
def wk3:DevS:=(crS [] wk2).2
def wk4:DevS:={ wk3 with off:=false }
def nk1:DevS:=(crS [] (newS 1)).2
def mk (i k:Nat):Nat:=(i*31+k*7+1)%256
def mks (i n:Nat):List Nat:=(List.range n).map (mk i)
def mkL (j:Nat)(l:List Nat):List Nat:=mks j l.length
def PM:Nat->List Value->List Nat->SP
  |j,v::vs,n::ns=>PM (j+1) vs ns*Sl 1 v n (bys (mks j n))
  |_,[],[]=>emp
  |_,_,_=>pure_ False
def GP:Nat->List Value->List Value->List Nat->SP
  |j,v::vs,g::gs,n::ns=>GP (j+1) vs gs ns*Gr v n (bys (mks j n)) g (n+70) (bys (mks j (n+70)))
  |_,[],[],[]=>emp
  |_,_,_,_=>pure_ False
attribute [local irreducible] Sl SlR pt ro Parts Gr
end Go.Vl

namespace Go.Vl
open Go Go.Proofs Go.Proofs.Tryz
def rdA (s:DevS):List Int×Int:=if s.off=true then ([0,0,0,0,0],5) else if 578<=s.ls.length then rdT (s.ls.length*64) (imgS s) else ([0,0,0,0,0],100)
def rootA (s:DevS):Nat×Int:=if (rdA s).2≠0 then (0,(rdA s).2) else wordP 64 s
theorem old_heap' {W w:World}{g:Gh}(h:sat g w (old W)){k:Nat}(hk:k<W.heap.size):w.heap[k]? =W.heap[k]? :=by
  obtain ⟨x,rfl,hx⟩:=h.hp;have:=Array.getElem?_eq_getElem hk;rw [this];exact hx _ _ true (by simp [this])
theorem cell_old' {W:World}{b off:Nat}{v:Value}(h:W.cell? ⟨b,off,none⟩=some v):Cell (old W) b off v:=λ g w hs=>by
  have hb:b<W.heap.size:=by
    rcases Nat.lt_or_ge b W.heap.size with h1|h1
    . exact h1
    exfalso
    have:W.heap[b]? =none:=Array.getElem?_eq_none h1
    simp [World.cell?,this] at h
  have:=old_heap' hs hb;rw [←h];simp only [World.cell?,this]
theorem rs_old {W:World}{a:Addr}{xs:List Value}(h:∀i v,xs[i]? =some v->W.cell? (a.add i)=some v):Rs (old W) (some a) xs:=by
  cases xs with
  |nil=>exact rs_nil
  |cons x l=>
    obtain ⟨b,off,spot⟩:=a;have h0:=h 0 x rfl;have hspot:spot=none:=(by simpa [Addr.add] using World.cell?_spot h0);subst hspot;refine λ g w hs i v hv=>⟨b,off,rfl, ?_⟩
    have:=h i v hv;rw [WideShapes.add_plain] at this
    exact cell_old' this g w hs
def Rdb {α:Type}(P:Program)(W:World)(t:TypeId)(r:List Value->α->Prop):Prop:=
  ∀ (H:Type) (enc:TypeId×Value->H) (spare:Nat->Bool) (held:Bool) (fuel:Nat) (cs:List Value) (d:DataW H) (pl:List MemPlace),
    DataW.trod enc P W 0 spare held fuel t cs=some (d,pl)->(∀n∈d.weights P t,n<=reachBytes)->∃x,r cs x
theorem Rdb.mono {α β:Type}{P:Program}{W:World}{t:TypeId}{r:List Value->α->Prop}{q:List Value->β->Prop}(h:Rdb P W t r)(k:∀cs x,r cs x->∃y,q cs y):Rdb P W t q:=
  λ H enc sp hd fu cs d pl h1 h2=>by obtain ⟨x,hx⟩:=h H enc sp hd fu cs d pl h1 h2;exact k cs x hx
def PInt (k:IntKind)(cs:List Value)(n:Int):Prop:=cs=[.int k n]/\ (Lit.int k n).wf=true
theorem rdb_int {P:Program}{W:World}{t:TypeId}{k:IntKind}(ht:P.underlying t=some (.int k)):Rdb P W t (PInt k):=λ H enc sp hd fu cs d pl h _=>by
  obtain ⟨n,e,_,hw⟩:=DataW.trod_int ht h;exact ⟨n,e,hw⟩
def PBool (cs:List Value)(b:Bool):Prop:=cs=[.bool b]
def PSl {α:Type}(A:SP)(k b:Nat)(r:List Value->α->Prop)(cs:List Value)(xs:List α):Prop:=
  ∃ (a:Option Addr) (cap:Nat) (Cs:List (List Value)),cs=[.slice a xs.length cap]/\ xs.length<=cap/\ xs.length*b<=reachBytes/\ Cs.length=xs.length/\ (∀i (h:i<xs.length) (h':i<Cs.length),Cs[i].length=k/\ r Cs[i] xs[i])/\ Rs A a Cs.flatten
theorem weightsAll_mem {H:Type}{P:Program}{e:TypeId}:∀{l:List (DataW H)} {d:DataW H},d∈l->∀n∈d.weights P e,n∈DataW.weightsAll P e l
  |x::l,d,h,n,hn=>by
    simp only [DataW.weightsAll,List.mem_append]
    rcases List.mem_cons.1 h with rfl|h
    . exact .inl hn
    exact .inr (weightsAll_mem h n hn)
theorem flat_at {k:Nat}:∀{Cs:List (List Value)} (_:∀c∈Cs,c.length=k) {i j:Nat} (_:j<k) (hi:i<Cs.length),Cs.flatten[i*k+j]? =Cs[i][j]?
  |c::Cs,h,0,j,hj,_=>by
    rw [Nat.zero_mul,Nat.zero_add,List.flatten_cons,List.getElem?_append_left (by rw [h c (by simp)];exact hj)];rfl
  |c::Cs,h,i+1,j,hj,hi=>by
    have hc:=h c (by simp);rw [List.flatten_cons,List.getElem?_append_right (by rw [hc,Nat.add_mul];omega),hc,show (i+1)*k+j-k=i*k+j by rw [Nat.add_mul];omega]
    exact flat_at (λ x hx=>h x (List.mem_cons_of_mem _ hx)) hj (by simpa using hi)
theorem flat_length {k:Nat}:∀{Cs:List (List Value)} (_:∀c∈Cs,c.length=k),Cs.flatten.length=Cs.length*k
  |[],_=>by simp
  |c::Cs,h=>by
    rw [List.flatten_cons,List.length_append,h c (by simp),flat_length (λ x hx=>h x (List.mem_cons_of_mem _ hx)),List.length_cons,Nat.add_mul];omega
theorem rdb_slice {α:Type}{P:Program}{W:World}{t e:TypeId}{k b:Nat}{r:List Value->α->Prop}(ht:P.underlying t=some (.slice e))(hk:P.cellsOf e=k)(hb:P.bytesOf e=b)(hk0:0<k)(hr:Rdb P W e r):Rdb P W t (PSl (old W) k b r):=λ H enc sp hd fu cs d pl h hw=>by
  rcases Deep.open_slice ht h with ⟨rfl,_⟩|⟨a,len,cap,m,n,D,Pl,rfl,_,hl,_,hm,hx,hel⟩
  . exact ⟨[],none,0,[],rfl,Nat.le_refl _,by simp,rfl,λ i h=>by simp at h,rs_nil⟩
  have hlm:len<=m:=(by rw [hm];split<;>omega)
  simp only [Prod.mk.injEq] at hx
  obtain ⟨rfl,_⟩:=hx;have hall:∀n∈DataW.weights P t (DataW.slice ((List.range len).map D) ((List.range (m-len)).map λ j=>D (len+j))),n<=reachBytes:=hw
  have hw1:(len+(m-len))*P.bytesOf e<=reachBytes:=by
    have:=hall ((len+(m-len))*P.bytesOf e) (by simp [DataW.weights,ht]);exact this
  have hex:∀i,i<len->∃p:List Value×α,p.1.length=k/\ r p.1 p.2/\∀j v,p.1[j]? =some v->W.cell? (a.add (i*k+j))=some v:=λ i hi=>by
    obtain ⟨cs',h1,h2⟩:=hel i oqz;rw [hk] at h1
    obtain ⟨_,hlen,h3⟩:=World.cells?_some h1
    obtain ⟨x,hx⟩:=hr H enc sp hd n cs' (D i) (Pl i) h2 (λ n hn=>hall n (by
      simp only [DataW.weights,ht,List.mem_cons,List.mem_append]
      refine .inr (.inl (weightsAll_mem (d:=D i) ?_ n hn))
      exact List.mem_map.2 ⟨i,List.mem_range.2 hi,rfl⟩))
    refine ⟨(cs',x),hlen,hx,λ j v hv=> ?_⟩;have hj:j<k:=(by have h9:j<cs'.length:=lt_at hv;omega);have:=h3 j hj;rw [Deep.add_add] at this
    rw [this,hv]
  rcases Nat.eq_zero_or_pos len with h0|h0
  . subst h0;exact ⟨[],some a,cap,[],rfl,Nat.zero_le _,by simp,rfl,λ i h=>by simp at h,rs_nil⟩
  obtain ⟨p0,_⟩:=hex 0 h0
  haveI:Inhabited (List Value×α):=⟨p0⟩
  obtain ⟨f,hf⟩:=Deep.choose_lt hex;refine ⟨(List.range len).map λ i=>(f i).2,some a,cap,(List.range len).map λ i=>(f i).1,by simp,by simpa using hl, ?_,by simp,λ i h h'=> ?_,rs_old λ i v hv=> ?_⟩
  . simp only [List.length_map,List.length_range,←hb]
    exact Nat.le_trans (Nat.mul_le_mul_right _ oqz) hw1
  . simp only [List.length_map,List.length_range] at h
    simp only [List.getElem_map,List.getElem_range]
    exact ⟨(hf i h).1,(hf i h).2.1⟩
  have hCk:∀c∈(List.range len).map λ i=>(f i).1,c.length=k:=λ c hc=>by
    obtain ⟨i,hi,rfl⟩:=List.mem_map.1 hc;exact (hf i (List.mem_range.1 hi)).1
  have hi:=lt_at hv;rw [flat_length hCk,List.length_map,List.length_range] at hi
  have hq:i/k<len:=Nat.div_lt_of_lt_mul (by rw [Nat.mul_comm];exact hi);have hm2:i%k<k:=Nat.mod_lt _ hk0;have e:i=i/k*k+i%k:=(Nat.div_add_mod' i k).symm;rw [e,flat_at hCk hm2 (by simpa using hq)] at hv
  simp only [List.getElem_map,List.getElem_range] at hv
  rw [e]
  exact (hf (i/k) hq).2.2 _ v hv
theorem rdb_fields {P:Program}{W:World}{t:TypeId}{fs:Array Field}(ht:P.underlying t=some (.struct fs)){H:Type}{enc:TypeId×Value->H}{sp:Nat->Bool}{hd:Bool}{fu:Nat}{cs:List Value}{d:DataW H}{pl:List MemPlace}
    (h:DataW.trod enc P W 0 sp hd fu t cs=some (d,pl)) (hw:∀n∈d.weights P t,n<=reachBytes):cs.length=P.cellsOf t∧
    ∀ (j:Nat) (f:Field),fs[j]? =some f->∀{α:Type} {r:List Value->α->Prop},Rdb P W f.type r->∃x,r ((cs.drop f.offset).take (P.cellsOf f.type)) x:=by
  obtain ⟨xs,n,_,hx,hl,hlen,hf⟩:=DataW.trod_struct ht h;refine ⟨hl,λ j f hj α r hr=> ?_⟩
  simp only [Prod.mk.injEq] at hx
  obtain ⟨rfl,_⟩:=hx
  have hj':j<xs.length:=by
    have h1:j<fs.size:=(Array.getElem?_eq_some_iff.1 hj).1;have h2:xs.length=fs.size:=(by simpa using hlen)
    omega
  have:=hf j f hj;rw [List.getElem?_eq_getElem hj'] at this
  refine hr H enc sp hd n _ xs[j].1 xs[j].2 this (λ m hm=>hw m ?_)
  simp only [DataW.weights,ht]
  exact DataW.weights_mem_each (ts:=fs.toList.map (·.type)) (ds:=xs.map (·.1)) (j:=j) (t:=f.type) (d:=xs[j].1) (by simp [hj]) (by simp [hj']) m hm
theorem flat1 {α:Type}{r:List Value->α->Prop}{f:α->Value}:∀{Cs:List (List Value)} {xs:List α} (_:Cs.length=xs.length) (_:∀i (h:i<xs.length) (h':i<Cs.length),Cs[i]=[f xs[i]]),Cs.flatten=xs.map f
  |[],[],_,_=>rfl
  |c::Cs,x::xs,hl,h=>by
    have h0:=h 0 (by simp) (by simp)
    simp only [List.getElem_cons_zero] at h0
    rw [List.flatten_cons,h0,flat1 (r:=r) (f:=f) (Cs:=Cs) (xs:=xs) (by simpa using hl) (λ i hi hi'=>h (i+1) (by simpa using hi) (by simpa using hi'))];rfl
def PBys (A:SP)(cs:List Value)(xs:List Nat):Prop:=∃a cap,cs=[.slice a xs.length cap]/\ xs.length<=cap/\ xs.length<=140737488351232/\ Rs A a (bys xs)/\∀x∈xs,x<256
def PInts (A:SP)(cs:List Value)(xs:List Int):Prop:=∃a cap,cs=[.slice a xs.length cap]/\ xs.length<=cap/\ xs.length<=17592186043904/\ Rs A a (ints xs)/\∀x∈xs,-9223372036854775808<=x/\ x<=9223372036854775807
theorem i64_wf {x:Int}(h:(Lit.int .i64 x).wf=true): -9223372036854775808<=x/\ x<=9223372036854775807:=Go.bounds_i64 h
theorem rdb_ints {P:Program}{W:World}{t e:TypeId}(ht:P.underlying t=some (.slice e))(he:P.underlying e=some (.int .i64))(hk:P.cellsOf e=1)(hb:P.bytesOf e=8):Rdb P W t (PInts (old W)):=
  (rdb_slice ht hk hb (by decide) (rdb_int he)).mono λ cs zs ⟨a,cap,Cs,e1,hc,hs,hl,hx,hr⟩=>by
    refine ⟨zs,a,cap,e1,hc,by unfold reachBytes at hs;omega, ?_,λ z hz=> ?_⟩
    . rw [show ints zs=Cs.flatten from (flat1 (r:=PInt .i64) (f:=λ z:Int=> .int .i64 z) hl (λ i h h'=>(hx i h h').2.1)).symm];exact hr
    obtain ⟨i,hi,rfl⟩:=List.mem_iff_getElem.1 hz;exact i64_wf (hx i hi oqz).2.2
abbrev ub {H:Type}(d:DataW H):Nat:=Go.Proofs.YtjmfhpoeaimidaaGreat.Rows.uptoBulk d
abbrev ubs {H:Type}(l:List (DataW H)):Nat:=Go.Proofs.YtjmfhpoeaimidaaGreat.Rows.uptoBulkAll l
def Rdu {α:Type}(P:Program)(W:World)(t:TypeId)(r:List Value->α->Prop)(sz:α->Nat):Prop:=
  ∀ (H:Type) (enc:TypeId×Value->H) (spare:Nat->Bool) (held:Bool) (fuel:Nat) (cs:List Value) (d:DataW H) (pl:List MemPlace),
    DataW.trod enc P W 0 spare held fuel t cs=some (d,pl)->∃x,r cs x/\ sz x<=ub d
theorem Rdu.mono {α β:Type}{P:Program}{W:World}{t:TypeId}{r:List Value->α->Prop}{s:α->Nat}{q:List Value->β->Prop}{z:β->Nat}(h:Rdu P W t r s)(k:∀cs x,r cs x->∃y,q cs y/\ z y<=s x):Rdu P W t q z:=
  λ H enc sp hd fu cs d pl h1=>by
    obtain ⟨x,hx,hs⟩:=h H enc sp hd fu cs d pl h1;obtain ⟨y,hy,hz⟩:=k cs x hx;exact ⟨y,hy,by omega⟩
def PSu {α:Type}(A:SP)(k:Nat)(r:List Value->α->Prop)(cs:List Value)(xs:List α):Prop:=
  ∃ (a:Option Addr) (cap:Nat) (Cs:List (List Value)),cs=[.slice a xs.length cap]/\ xs.length<=cap/\ Cs.length=xs.length/\ (∀i (h:i<xs.length) (h':i<Cs.length),Cs[i].length=k/\ r Cs[i] xs[i])/\ Rs A a Cs.flatten
def szL {α:Type}(sz:α->Nat)(xs:List α):Nat:=(xs.map sz).sum+1
def PByU (A:SP)(cs:List Value)(xs:List Nat):Prop:=∃a cap,cs=[.slice a xs.length cap]/\ xs.length<=cap/\ Rs A a (bys xs)/\∀x∈xs,x<256
def PInU (A:SP)(cs:List Value)(xs:List Int):Prop:=∃a cap,cs=[.slice a xs.length cap]/\ xs.length<=cap/\ Rs A a (ints xs)/\∀x∈xs,-9223372036854775808<=x/\ x<=9223372036854775807
structure Op9 where
  k:Int
  q:Int
  n:Int
  a:Option Addr
  c:Nat
  b:List Nat
  v:Nat
  ka:Option Addr
  kc:Nat
  kp:List Int
def Op9.cells (t:Op9):List Value:=[.int .i64 t.k,.int .i64 t.q,.int .i64 t.n,.slice t.a t.b.length t.c,.int .u64 (t.v:Nat),.slice t.ka t.kp.length t.kc]
structure Op9W (A:SP) (t:Op9):Prop where
  cap:t.b.length<=t.c
  rs:Rs A t.a (bys t.b)
  byt:∀x∈t.b,x<256
  v:t.v<18446744073709551616
  kcap:t.kp.length<=t.kc
  krs:Rs A t.ka (ints t.kp)
  kb:∀x∈t.kp,-9223372036854775808<=x/\ x<=9223372036854775807
  q: -9223372036854775808<=t.q/\ t.q<=9223372036854775807
  n: -9223372036854775808<=t.n/\ t.n<=9223372036854775807
def Op9.sz (t:Op9):Nat:=t.b.length+t.kp.length+1
def ocs (l:List Op9):List Value:=l.flatMap Op9.cells
def POps (A:SP)(cs:List Value)(ops:List Op9):Prop:=∃a cap,cs=[.slice a ops.length cap]/\ ops.length<=cap/\ Rs A a (ocs ops)/\∀t∈ops,Op9W A t
def rawS (t:Op9)(s:DevS):DevS:=if t.k=7 then (sto ((wi t.q 256:Nat):Int) (t.b.take (256-wi t.q 256)) s).2 else if t.k=8 then (fl1 ((wi t.q 256:Nat):Int) s).2 else if t.k=9 then (fe s).2 else s
theorem room_le {a b:Nat}{s:DevS}(h:Room a s)(hab:b<=a):Room b s:=λ l hl=>Nat.le_trans (Nat.add_le_add_left hab _) (h l hl)
def rawL (l:List Op9)(s:DevS):DevS:=l.foldl (λ s t=>rawS t s) s
def rawB (at_ m:Nat)(t:Op9)(s:DevS):DevS:=if t.k=7/\ wi t.q 256<at_+m/\ at_<wi t.q 256+t.b.length then s else rawS t s
def rawLB (at_ m:Nat)(l:List Op9)(s:DevS):DevS:=l.foldl (λ s t=>rawB at_ m t s) s
theorem done_room {r:Nat}{s:DevS}(hw:WfD s)(h:Room r s):Room r (doneS s):=by
  rcases done_loss (X:=λ _ _=>True) hw (λ _ _ _ _ _=>trivial) with ⟨_,h2,_⟩|⟨_,h1,h2,h3,_,h5⟩
  . unfold Room;rw [h2];exact h
  intro l hl;have hp:=hw.pos;have h0:=h _ (List.getElem_mem hp);have h4:=List.length_pos_iff.2 (hw.line _ (List.getElem_mem hp)).ne;have:=h3 l hl
  omega
theorem storeF_room:∀ (m:Nat) {p r:Nat} {b:List Nat} {s:DevS},b.length=m->WfD s->(∀x∈b,x<256)->Room (r+m) s->Room r (storeF b.length p b s).2/\ WfD (storeF b.length p b s).2:=by
  intro m
  induction m using Nat.strongRecOn with
  |_ m ih=>
    intro p r b s hm hw hb hroom
    by_cases h0:b=[]
    . subst h0;rw [storeF_nil]
      exact ⟨room_le hroom oqz,hw⟩
    have hpos:0<b.length:=List.length_pos_iff.2 h0;have hr1:Room 1 s:=room_le hroom oqz;have hwL:=layS_wf (at_:=p-p%8) hw hr1 (stW_nm (p:=p) (s:=s) hb)
    have hroom2:Room (r+(m-min m (8-p%8))) (layS (p-p%8) (nm (stW p b s)) s):=λ l hl=>by
      have:=onLine_room (r:=r+m-1) (f:=layL ((p-p%8)%64/8) (nm (stW p b s))) (i:=(p-p%8)/64) (λ l hl=>by have:=hroom l hl;omega) (λ l=>by simp [layL]) l hl
      omega
    have hk:(b.drop (8-p%8)).length=m-min m (8-p%8):=(by rw [List.length_drop];omega);rw [storeF_step h0]
    split
    . exact ⟨room_le (done_room hwL hroom2) oqz,doneS_wf hwL⟩
    exact ih (m-min m (8-p%8)) oqz hk (doneS_wf hwL) (λ x hx=>hb x (List.mem_of_mem_drop hx)) (done_room hwL hroom2)
theorem fence_wf {s:DevS}(hw:WfD s):WfD (fenceS s):=⟨by simp [fenceS];exact hw.pos,by simp [fenceS];exact hw.top,λ l hl=>by
  simp only [fenceS,List.mem_map] at hl
  obtain ⟨l0,h0,rfl⟩:=hl
  exact fenceL_wf (hw.line l0 h0),hw.arms,hw.after,hw.keeps⟩
theorem flF_room {r:Nat}:∀ (k q:Nat) (s:DevS),WfD s->Room r s->Room r (flF k q s).2/\ WfD (flF k q s).2
  |0,q,s,hw,h=>by
    rw [flF_zero]
    unfold fe
    split
    . exact ⟨h,hw⟩
    refine ⟨done_room (fence_wf hw) λ l hl=> ?_,doneS_wf (fence_wf hw)⟩
    simp only [fenceS,List.mem_map] at hl
    obtain ⟨l0,h0,rfl⟩:=hl;have h3:(fenceL l0).st.length<=l0.st.length:=(by unfold fenceL;split<;>simp);have:=h l0 h0
    omega
  |k+1,q,s,hw,h=>by
    have hk:Room r (fl1 ((q*64:Nat):Int) s).2/\ WfD (fl1 ((q*64:Nat):Int) s).2:=by
      unfold fl1
      split
      . exact ⟨h,hw⟩
      refine ⟨done_room (flushS_wf hw) λ l hl=> ?_,doneS_wf (flushS_wf hw)⟩
      unfold flushS onLine at hl
      split at hl
      . rcases List.mem_or_eq_of_mem_set hl with h1|h1
        . exact h l h1
        rw [h1]
        rename_i l0 e
        exact h l0 (List.mem_of_getElem? e)
      exact h l hl
    show Room r (if _ then _ else _:Int×DevS).2/\ WfD (if _ then _ else _:Int×DevS).2
    split
    . exact hk
    exact flF_room k (q+1) _ hk.2 hk.1
def fmtF:List (Nat×List Nat)->DevS->Int×DevS
  |[],s=>(0,s)
  |t::l,s=>if (bytesP (t.1:Int) t.2 s).1≠0 then bytesP (t.1:Int) t.2 s else fmtF l (bytesP (t.1:Int) t.2 s).2
def fst4 (n:Nat):List (Nat×List Nat):=[(0,(List.replicate 64 0)),(64,(List.replicate 64 0)),(128,(List.replicate 64 0)),(0,sbB [n,128,32768,32896,(n-32896)/256,0])]
def stC (l:List (Nat×List Nat)):List Value:=l.flatMap λ t=> .int .i64 (t.1:Int)::bys t.2
def fmA (n:Nat)(s:DevS):List Int×Int:=if (fmtF (fst4 n) s).1≠0 then ([0,0,0,0,0],(fmtF (fst4 n) s).1) else ([(n:Int),((128:Nat):Int),((32768:Nat):Int),((32896:Nat):Int),(((n-32896)/256:Nat):Int)],0)
theorem goes_map (kp:List Int)(s:DevS):(goesS kp s).ls.map seenL=s.ls.mapIdx (λ i l=>l.st.getD (kOf kp i l.st.length) []):=by
  apply List.ext_getElem?
  intro j
  simp only [goesS,goPart,List.getElem?_map,List.getElem?_mapIdx]
  cases e:s.ls[j]? with
  |none=>rfl
  |some l=>
    have hj:j<s.ls.length:=(List.getElem?_eq_some_iff.1 e).1
    simp only [Option.map_some,Option.some.injEq]
    rw [if_pos hj];simp [goL,seenL]
theorem seen_single {l:LineS}(h:l.st.length=1){k:Nat}(hk:k<1):l.st.getD k []=seenL l:=by
  obtain rfl:k=0:=by omega
  unfold seenL;rw [h]
theorem goes_single {kp:List Int}{s:DevS}(h:∀l∈s.ls,l.st.length=1):imgS (goesS kp s)=imgS s:=by
  refine img_seen ?_;rw [goes_map]
  apply List.ext_getElem?
  intro j
  simp only [List.getElem?_map,List.getElem?_mapIdx]
  cases e:s.ls[j]? with
  |none=>rfl
  |some l=>
    have hl:=h l (List.mem_of_getElem? e)
    simp only [Option.map_some,Option.some.injEq]
    exact seen_single hl (by rw [hl];exact kOf_lt (by decide))
def zz:List Nat:=List.replicate 64 0
theorem cln_from (n:Nat)(xs:List Nat):Cln (fromS n xs):=λ l h=>by
  obtain ⟨j,hj,rfl⟩:=List.mem_iff_getElem.1 h
  simp [fromS,lineF]
def LostI (n:Nat)(xs I:List Nat):Prop:=I.length=n/\ I.drop 192=xs.drop 192/\ (I.take 192=xs.take 192∨I.take 64≠sbB [n,128,32768,32896,(n-32896)/256,0]∨(I.drop 64).take 128=List.replicate 128 0)
def DoneI (n:Nat)(xs I:List Nat):Prop:=I.length=n/\ I.drop 192=xs.drop 192/\ I.take 64=sbB [n,128,32768,32896,(n-32896)/256,0]/\ (I.drop 64).take 128=List.replicate 128 0
theorem goes_len (kp:List Int)(s:DevS):(goesS kp s).ls.length=s.ls.length:=by simp only [goesS,goPart_length]
theorem u64_wf {x:Int}(h:(Lit.int .u64 x).wf=true):∃m:Nat,x=m/\ m<18446744073709551616:=by
  have hb:=Go.bounds_u64 h;obtain ⟨m,rfl⟩:=Int.eq_ofNat_of_zero_le hb.1;exact ⟨m,rfl,by omega⟩
def PSteps (A:SP)(cs:List Value)(ss:List StepC):Prop:=∃a cap,cs=[.slice a ss.length cap]/\ ss.length<=cap/\ ss.length<=1353245080300/\ Rs A a (scs ss)/\∀t∈ss,t.v<18446744073709551616
structure ImC where
  sz:Int
  fl:Int
  ha:Option Addr
  hcp:Nat
  hd:List Nat
  rt:Bool
  tn:Int
def ImC.cells (t:ImC):List Value:=[.int .i64 t.sz,.int .u8 t.fl,.slice t.ha t.hd.length t.hcp,.bool t.rt,.int .i64 t.tn]
def PImg (A:SP)(cs:List Value)(t:ImC):Prop:=cs=t.cells/\ Rs A t.ha (bys t.hd)/\ (∀x∈t.hd,x<256)/\ t.hd.length<=t.hcp/\ t.hd.length<=140737488351232/\ (0<=t.fl/\ t.fl<256)/\ (-9223372036854775808<=t.tn/\ t.tn<=9223372036854775807)/\ (-9223372036854775808<=t.sz/\ t.sz<=9223372036854775807)
structure RwF (A:SP) (a:Option Addr) (vs:List Value) (ls:List (List Nat)):Prop where
  len:vs.length=ls.length
  rd:Rs A a vs
  row:∀i (h:i<ls.length),∃b c,vs[i]? =some (.slice b ls[i].length c)/\ Rs A b (bys ls[i])
theorem RwF.left {A X:SP}{a:Option Addr}{vs:List Value}{ls:List (List Nat)}(h:RwF A a vs ls):RwF (A*X) a vs ls:=⟨h.len,h.rd.left,λ i hi=>let ⟨b,c,e,hr⟩:=h.row i hi;⟨b,c,e,hr.left⟩⟩
def fmX (s:DevS):(List Int×Int)×DevS:=if 578<=s.ls.length then (((fmA (s.ls.length*64) s).1,(fmtF (fst4 (s.ls.length*64)) s).1),(fmtF (fst4 (s.ls.length*64)) s).2) else (([0,0,0,0,0],80),s)
theorem room_goesK {r:Nat}{keep:List Int}{s:DevS}(hw:WfD s)(h:Room r s):Room r (goesS keep s):=λ l hl=>by
  have h0:=h _ (List.getElem_mem hw.pos);have h1:=List.length_pos_iff.2 (hw.line _ (List.getElem_mem hw.pos)).ne
  simp only [goesS,goPart] at hl
  obtain ⟨j,hj,rfl⟩:=List.mem_iff_getElem.1 hl
  simp only [List.getElem_mapIdx]
  simp only [List.length_mapIdx] at hj
  rw [if_pos hj];simp [goL];omega
theorem st8_room {r v:Nat}{p e:Int}{s s2:DevS}(h:st8 p v s=(e,s2))(hw:WfD s)(hv:v<18446744073709551616)(hr:Room (r+1) s):Room r s2:=by
  have h0:Room r s:=room_le hr oqz
  unfold st8 at h
  split at h
  . rw [←(Prod.mk.inj h).2];exact h0
  split at h
  . rw [←(Prod.mk.inj h).2];exact h0
  rw [←(Prod.mk.inj h).2]
  exact done_room (layS_wf hw (room_le hr oqz) hv) (onLine_room hr λ l=>by simp [layL])
theorem sto_room {r:Nat}{p e:Int}{b:List Nat}{s s2:DevS}(h:sto p b s=(e,s2))(hw:WfD s)(hb:∀x∈b,x<256)(hr:Room (r+b.length) s):Room r s2:=by
  have h0:Room r s:=room_le hr oqz;have h2:(sto p b s).2=s2:=(by rw [h]);rw [←h2]
  unfold sto
  split
  . exact h0
  exact (storeF_room b.length rfl hw hb hr).1
theorem flushS_room {r p:Nat}{s:DevS}(h:Room r s):Room r (flushS p s):=λ l hl=>by
  unfold flushS onLine at hl
  split at hl
  . rcases List.mem_or_eq_of_mem_set hl with h1|h1
    . exact h l h1
    rw [h1]
    rename_i l0 e
    exact h l0 (List.mem_of_getElem? e)
  exact h l hl
theorem fl1_room {r:Nat}{p e:Int}{s s2:DevS}(h:fl1 p s=(e,s2))(hw:WfD s)(hr:Room r s):Room r s2:=by
  unfold fl1 at h
  split at h
  . rw [←(Prod.mk.inj h).2];exact hr
  rw [←(Prod.mk.inj h).2];exact done_room (flushS_wf hw) (flushS_room hr)
theorem fe_room {r:Nat}{e:Int}{s s2:DevS}(h:fe s=(e,s2))(hw:WfD s)(hr:Room r s):Room r s2:=by
  unfold fe at h
  split at h
  . rw [←(Prod.mk.inj h).2];exact hr
  rw [←(Prod.mk.inj h).2]
  refine done_room (fence_wf hw) λ l hl=> ?_
  simp only [fenceS,List.mem_map] at hl
  obtain ⟨l0,h0,rfl⟩:=hl;have h3:(fenceL l0).st.length<=l0.st.length:=(by unfold fenceL;split<;>simp);have:=hr l0 h0
  omega
theorem crS_room {r:Nat}{e:Int}{kp:List Int}{s s2:DevS}(h:crS kp s=(e,s2))(hw:WfD s)(hr:Room r s):Room r s2:=by
  unfold crS at h
  split at h
  . rw [←(Prod.mk.inj h).2];exact hr
  split at h
  . rw [←(Prod.mk.inj h).2];exact hr
  rw [←(Prod.mk.inj h).2];exact room_goesK hw hr
def ctI (p:Int)(s:DevS):List (List Nat):=if p<0 then [] else ctS p.toNat s
def ldB (p m:Int)(s:DevS):List Nat:=if rdy s.ls.length s.off p m=0 then ((imgS s).drop p.toNat).take m.toNat else []
theorem Op9W.left {A X:SP}{t:Op9}(h:Op9W A t):Op9W (A*X) t:=⟨h.cap,h.rs.left,h.byt,h.v,h.kcap,h.krs.left,h.kb,h.q,h.n⟩
structure RgC where
  ba:Option Addr
  bc:Nat
  bef:List Op9
  q:Int
  a:Option Addr
  c:Nat
  b:List Nat
  ha:Option Addr
  hc:Nat
  beh:List Op9
  ka:Option Addr
  kc:Nat
  kp:List Int
def RgC.cells (t:RgC):List Value:=[.slice t.ba t.bef.length t.bc,.int .i64 t.q,.slice t.a t.b.length t.c,.slice t.ha t.beh.length t.hc,.slice t.ka t.kp.length t.kc]
structure RgW (A:SP) (t:RgC):Prop where
  hrb:Rs A t.ba (ocs t.bef)
  hwb:∀x∈t.bef,Op9W A x
  hrh:Rs A t.ha (ocs t.beh)
  hwh:∀x∈t.beh,Op9W A x
  hr:Rs A t.a (bys t.b)
  hb:∀x∈t.b,x<256
  hcap:t.b.length<=t.c
  hrk:Rs A t.ka (ints t.kp)
def xm (i:Nat):Int:=IntKind.u8.wrap (IntKind.i64.wrap ((BitVec.ofInt IntKind.i64.bits 165^^^BitVec.ofInt IntKind.i64.bits (i:Int)).toNat))
def xmN (i:Nat):Nat:=(xm i).toNat
def spm (n:Nat):List Nat:=(List.range 80).map λ j=>xmN (n+j)
def spi (n:Nat):List Int:=(List.range 9).map λ j=>(7700+((n+j:Nat):Int))
theorem int_lists {xs ys:List Int}{i:Nat}(h:xs.take i=ys.take i)(hi:i<xs.length)(hj:i<ys.length)(e:xs[i]=ys[i]):xs.take (i+1)=ys.take (i+1):=by
  rw [List.take_succ_eq_append_getElem hi,List.take_succ_eq_append_getElem hj,h,e]
attribute [local irreducible] Sl pt ro
theorem Zbk {p r:Prop}(k:r)(h:Kq r->p:=by intro k;refine ql_v rfl (o_move wqz) ?_;refine ql_v rfl (o_move wqz) ?_;exact k.o):p:=h ⟨k⟩
theorem Zgs {p r:Prop}(k:r)(h:Kq r->p:=by intro k;refine Zd7 ?_;refine Zde ?_;exact k.o):p:=h ⟨k⟩
theorem EqInts_c {A:SP}{a1 a2:Option Addr}{c1 c2 n m:Nat}{xs ys:List Int}(h1:Rs A a1 (ints xs):=by exact rbqz)(h2:Rs A a2 (ints ys):=by exact rbqz)(hx:xs.length=n:=by first|assumption|rfl)(hy:ys.length=m:=by first|assumption|rfl)(hn:n<=4611686018427387904:=by omega)(hm:m<=4611686018427387904:=by omega):
    Fn Tryz.prog 62 #[.slice a1 n c1,.slice a2 m c2] A (λ v B=>v= .bool (decide (xs=ys))/\ A=B):=by
  refine fn_enterW func62 rfl ntmps62 (by simp) ?_;refine Zf0 ?_;refine tlm ?_;refine tv (o_len underlying22 rfl) ?_;refine Zk ?_;refine tc_cond rfl (sbq ?_) (sbq ?_)
  . intro h;refine Zdb ?_;refine ⟨.bool false,_,res1 rfl rfl, ?_,(by rw [decide_eq_false];intro e;subst e;omega),rfl⟩;exact Dr.sat drqz
  intro h;refine Zcu ?_;refine Zd9 ?_;refine tc_loop (λ kk ρ BB=>∃ (i:Nat),(i<=n)/\ (xs.take i=ys.take i)/\ kk=n-i/\ ρ 5=(vn i)/\ ρ 0= .slice a1 n c1/\ ρ 1= .slice a2 m c2/\ BB=A) (m:=n-(0)) ?_ ?_
  . exact ⟨0,by omega,rfl,rfl,rfl,rfl,rfl,rfl⟩
  intro k ρ B hI;obtain ⟨i,hp0,hp1,hkk1,hE5,hE0,hE1,hBA⟩:=hI;obtain rfl:=hBA.symm;refine te 5 hE5 ?_;refine te 0 hE0 ?_;refine te 1 hE1 ?_;refine Ze ?_;refine tlm ?_;refine Zcy ?_;refine tc_cond rfl (λ h=> ?_) (sbq ?_)
  . have hi:i<xs.length:=(by simp at h;omega);have hj:i<ys.length:=(by omega);refine Zbe ?_;refine Zfl ?_;refine Zbk ?_;refine ql_v rfl (o_ixP1 underlying22 sz3 rfl rfl oqz (nn_rs h1 (λ _=>by rw [ints_length];omega))) ?_;refine ql_v rfl (o_ldP p3 rfl h1 (ints_at hi)) ?_;refine Zbk ?_;refine ql_v rfl (o_ixP1 underlying22 sz3 rfl rfl oqz (nn_rs h2 (λ _=>by rw [ints_length];omega))) ?_;refine ql_v rfl (o_ldP p3 rfl h2 (ints_at hj)) ?_;refine ql_v rfl (o_nei rfl rfl) ?_;refine Zg9 ?_;refine tc_cond rfl (sbq ?_) (λ h=> ?_)
    . intro h;refine sr ?_;refine Zce ?_;refine ⟨.bool false,_,res1 rfl rfl, ?_,(by rw [decide_eq_false];intro e;subst e;simp at h),rfl⟩;exact Dr.sat drqz
    have heq:xs[i]=ys[i]:=(by simpa using h);refine Zgs ?_;exact ⟨_,by omega,i+1,by omega,int_lists hp1 hi hj heq,rfl,rfl,rfl,rfl,rfl⟩
  intro h;refine Zg ?_;refine Zdn ?_;refine ⟨.bool true,_,res1 rfl rfl, ?_,(by rw [decide_eq_true];have e:i=n:=(by simp at h;omega);rw [List.take_of_length_le oqz,List.take_of_length_le oqz] at hp1;exact hp1),rfl⟩;exact Dr.sat drqz
end Go.Vl

namespace Go.Vl
open Go Go.Proofs Go.Proofs.Tryz
theorem rangeP_room {r:Nat}{p m e:Int}{s s2:DevS}(h:rangeP p m s=(e,s2))(hw:WfD s)(hr:Room r s):Room r s2:=by
  have h2:(rangeP p m s).2=s2:=(by rw [h]);rw [←h2]
  unfold rangeP
  split
  . exact hr
  split
  . exact hr
  split
  . exact hr
  exact (flF_room _ _ _ hw hr).1
theorem st8_wf {v:Nat}{p e:Int}{s s2:DevS}(h:st8 p v s=(e,s2))(hw:WfD s)(hv:v<18446744073709551616)(hr:Room 1 s):WfD s2:=by
  unfold st8 at h
  split at h
  . rw [←(Prod.mk.inj h).2];exact hw
  split at h
  . rw [←(Prod.mk.inj h).2];exact hw
  rw [←(Prod.mk.inj h).2];exact doneS_wf (layS_wf hw hr hv)
def wd (n:Int):Nat:=2^wi n 4
theorem done_on {s:DevS}(h:doneE s=0):(doneS s).off=s.off:=by
  unfold doneE at h
  unfold doneS
  cases e:s.arms with
  |nil=>rfl
  |cons a ar=>
    rw [e] at h
    simp only at h ⊢
    split
    . rfl
    rename_i c;rw [if_neg c] at h;exact absurd h (by decide)
theorem storeF_on:∀ (m:Nat) {p:Nat} {b:List Nat} {s s2:DevS},b.length=m->storeF b.length p b s=(0,s2)->s2.off=s.off:=by
  intro m
  induction m using Nat.strongRecOn with
  |_ m ih=>
    intro p b s s2 hm h
    by_cases h0:b=[]
    . subst h0;rw [storeF_nil] at h;simp only [Prod.mk.injEq,true_and] at h;rw [h]
    have hpos:0<b.length:=List.length_pos_iff.2 h0;rw [storeF_step h0] at h
    by_cases hd:doneE (layS (p-p%8) (nm (stW p b s)) s)=0
    . rw [if_neg (by rw [hd];decide)] at h
      have:=ih (b.drop (8-p%8)).length (by rw [List.length_drop];omega) rfl h;rw [this,done_on hd,layS_off]
    rw [if_pos hd] at h
    simp only [Prod.mk.injEq] at h
    exact absurd h.1 hd
theorem sto_on {p:Int}{b:List Nat}{s s2:DevS}(h:sto p b s=(0,s2)):s2.off=s.off:=by
  unfold sto at h
  split at h
  . rename_i hr;simp only [Prod.mk.injEq] at h;exact absurd h.1 hr
  exact storeF_on _ rfl h
def needN (l:List (Int×Int)):Nat:=(l.map λ x=>24+up8 x.2.toNat).sum
theorem needN_cons (x:Int×Int)(l:List (Int×Int)):needN (x::l)=24+up8 x.2.toNat+needN l:=by unfold needN;rw [List.map_cons,List.sum_cons]
theorem needF_ok:∀{l:List (Int×Int)} {s e r:Int},(∀x∈l,1<=x.2)->needF (lensX l) s=(r,e)->e=0->r=s+(needN l:Nat)
  |[],s,e,r,_,h,_=>by
    simp only [lensX,List.map_nil,needF,Prod.mk.injEq] at h
    rw [←h.1];show s=s+((0:Nat):Int);omega
  |x::l,s,e,r,hx,h,he=>by
    have h1:=hx x (by simp);obtain ⟨n,hn⟩:=Int.eq_ofNat_of_zero_le (show 0<=x.2 by omega);have hc:lensX (x::l)=(n:Int)::lensX l:=(by unfold lensX;rw [List.map_cons,hn]);rw [hc,needF_cons oqz] at h
    split at h
    . simp only [Prod.mk.injEq] at h;omega
    rename_i hno
    have h2:=needF_ok (λ x hx'=>hx x (List.mem_cons_of_mem _ hx')) h he;rw [h2,needN_cons,hn,Int.toNat_natCast]
    have:(rndS n).1=((up8 n:Nat):Int):=(by unfold rndS at hno ⊢;split at hno<;>rename_i hh;exact absurd (.inl (by decide)) hno;rw [if_neg hh])
    omega
attribute [local irreducible] crk crL crc Sl pt ro Dev imgS recS
theorem Zcz {p r:Prop}(k:r)(h:Kq r->p:=by intro k;refine Za ?_;refine tc_cond rfl dbq (sbq ?_);exact k.o):p:=h ⟨k⟩
theorem Zd4 {p r:Prop}(k:r)(h:Kq r->p:=by intro k;refine tv (o_nei rfl rfl) ?_;refine Zbb ?_;exact k.o):p:=h ⟨k⟩
theorem Open_ok {A R:SP}{C:SP->SP}{d:Nat}{s:DevS}(hc:Ct A (Dev d s) R C:=by exact cbqz){p q:Int}(hp: -9223372036854775808<=p/\ p<=9223372036854775807:=by omega)(hq: -9223372036854775808<=q/\ q<=9223372036854775807:=by omega)(hok:(64<=p/\ p%64=0/\ 128<=q/\ q%64=0/\ p<=(s.ls.length:Int)*64/\ q<=(s.ls.length:Int)*64-p):=by omega):
    Fn Tryz.prog 79 #[pz d,.int .i64 p,.int .i64 q] A (λ r B=>∃b,r= .tuple #[pz b,.int .i64 0]/\ B=A*pt b (cl [pz d,.int .i64 p,.int .i64 q] 183)):=by
  refine fn_enterW func79 rfl ntmps79 (by simp) ?_;refine tc_have (λ _ _ h=>ct_wf2 hc h) λ hw=> ?_
  have htop:=hw.top;have hpos:=hw.pos;obtain ⟨rfl,hC⟩:=hc;refine sr ?_;refine tla ?_;refine Zs ?_;refine tl_c rfl (o_call bd73 rfl (Size_c (s:=s))) ?_;refine Zfb ?_;refine Zr ?_;refine Zb ?_;refine tv (o_eqi rfl rfl) ?_;refine Zcz ?_;intro h;refine tc_seq ?_;refine tc_cut (λ ρ BB=>∃ (bb:Bool),(bb=decide (¬(64<=p/\ p%64=0/\ 128<=q/\ q%64=0/\ p<=(s.ls.length:Int)*64/\ q<=(s.ls.length:Int)*64-p)))/\ ρ 14= .bool bb/\ ρ 0=(pz d)/\ ρ 1= .int .i64 p/\ ρ 2= .int .i64 q/\ BB=R*Dev d s) ?_ ?_
  . skip
    refine Zw ?_;refine Zd3 ?_;refine tl_bool (d:=17) rfl (λ h=> ?_) (λ h=> ?_)
    . have g17:(p<64):=(by first|exact of_decide_eq_true h|(have h2:=h;simp at h2;omega)|simpa using h);refine Zf2 ?_;refine Zo ?_;refine Zca ?_;refine Zf2 ?_;refine Zf2 ?_;refine Zb3 ?_;refine Z9 ?_;refine Ze2 ?_;exact ⟨_,by first|exact (decide_eq_true oqz).symm|exact (decide_eq_false oqz).symm|(rw [decide_eq_decide];omega),rfl,rfl,rfl,rfl,rfl⟩
    have g17:¬(p<64):=(by first|exact of_decide_eq_false h|(have h2:=h;simp at h2;omega)|simpa using h);refine tlm ?_;refine tv (by first|exact o_remI rfl rfl oqz|exact o_rem rfl rfl oqz) ?_;refine Zd4 ?_;refine tl_bool (d:=22) rfl (λ h=> ?_) (λ h=> ?_)
    . have g22:(p<64∨p%64≠0):=(by first|exact of_decide_eq_true h|(have h2:=h;simp at h2;omega)|simpa using h);refine Zo ?_;refine Zca ?_;refine Zf2 ?_;refine Zf2 ?_;refine Zb3 ?_;refine Z9 ?_;refine Ze2 ?_;exact ⟨_,by first|exact (decide_eq_true oqz).symm|exact (decide_eq_false oqz).symm|(rw [decide_eq_decide];omega),rfl,rfl,rfl,rfl,rfl⟩
    have g22:¬(p<64∨p%64≠0):=(by first|exact of_decide_eq_false h|(have h2:=h;simp at h2;omega)|simpa using h);refine Zfk ?_;refine Zbb ?_;refine tl_bool (d:=26) rfl (λ h=> ?_) (λ h=> ?_)
    . have g26:(p<64∨p%64≠0∨q<128):=(by first|exact of_decide_eq_true h|(have h2:=h;simp at h2;omega)|simpa using h);refine Zf2 ?_;refine Zf2 ?_;refine Zb3 ?_;refine Z9 ?_;refine Ze2 ?_;exact ⟨_,by first|exact (decide_eq_true oqz).symm|exact (decide_eq_false oqz).symm|(rw [decide_eq_decide];omega),rfl,rfl,rfl,rfl,rfl⟩
    have g26:¬(p<64∨p%64≠0∨q<128):=(by first|exact of_decide_eq_false h|(have h2:=h;simp at h2;omega)|simpa using h);refine tlm ?_;refine tv (by first|exact o_remI rfl rfl oqz|exact o_rem rfl rfl oqz) ?_;refine Zd4 ?_;refine tl_bool (d:=31) rfl (λ h=> ?_) (λ h=> ?_)
    . have g31:(p<64∨p%64≠0∨q<128∨q%64≠0):=(by first|exact of_decide_eq_true h|(have h2:=h;simp at h2;omega)|simpa using h);refine Zf2 ?_;refine Zb3 ?_;refine Z9 ?_;refine Ze2 ?_;exact ⟨_,by first|exact (decide_eq_true oqz).symm|exact (decide_eq_false oqz).symm|(rw [decide_eq_decide];omega),rfl,rfl,rfl,rfl,rfl⟩
    have g31:¬(p<64∨p%64≠0∨q<128∨q%64≠0):=(by first|exact of_decide_eq_false h|(have h2:=h;simp at h2;omega)|simpa using h);refine Zbc ?_;refine tv (o_gtr rfl rfl) ?_;refine Zbb ?_;refine tl_bool (d:=36) rfl (λ h=> ?_) (λ h=> ?_)
    . have g36:(p<64∨p%64≠0∨q<128∨q%64≠0∨(s.ls.length:Int)*64<p):=(by first|exact of_decide_eq_true h|(have h2:=h;simp at h2;omega)|simpa using h);refine Zb3 ?_;refine Z9 ?_;refine Ze2 ?_;exact ⟨_,by first|exact (decide_eq_true oqz).symm|exact (decide_eq_false oqz).symm|(rw [decide_eq_decide];omega),rfl,rfl,rfl,rfl,rfl⟩
    have g36:¬(p<64∨p%64≠0∨q<128∨q%64≠0∨(s.ls.length:Int)*64<p):=(by first|exact of_decide_eq_false h|(have h2:=h;simp at h2;omega)|simpa using h);refine Zbc ?_;refine tlm ?_;refine Zfs ?_;refine Ze2 ?_;exact ⟨_,by first|exact (decide_eq_true oqz).symm|exact (decide_eq_false oqz).symm|(rw [decide_eq_decide];omega),rfl,rfl,rfl,rfl,rfl⟩
  intro ρ B hI;obtain ⟨bb,hbb0,hE14,hE0,hE1,hE2,rfl⟩:=hI;refine q_then_n ?_;refine te 14 hE14 ?_;refine te 0 hE0 ?_;refine te 1 hE1 ?_;refine te 2 hE2 ?_;refine tc_cond rfl (λ h=> ?_) (sbq ?_)
  . exfalso;rw [h] at hbb0;have:=of_decide_eq_true hbb0.symm;omega
  intro h;refine Zdi ?_;refine Zb ?_;refine Zbc ?_;refine tv (o_bS (l:=[_,_,_]) (pv_cons wqz (pv_cons wqz (pv_cons wqz pv_nil))) underlying183 z183 (pl183 underlying183) rfl) ?_;refine tl_x rfl (o_box rfl rfl) ?_;rintro _ _ ⟨b47,rfl,rfl⟩;refine Zdd ?_;exact ⟨_,_,res2 rfl rfl rfl,λ _ _ h=>h,b47,rfl,rfl⟩
theorem Zff {p r:Prop}(k:r)(h:Kq r->p:=by intro k;refine tlm ?_;refine tv (o_nilCheck rfl) ?_;exact k.o):p:=h ⟨k⟩
theorem Z7 {p r:Prop}(k:r)(h:Kq r->p:=by intro k;refine Zb ?_;refine tv (o_nilCheck rfl) ?_;exact k.o):p:=h ⟨k⟩
theorem Zf3 {p r:Prop}(k:r)(h:Kq r->p:=by intro k;refine Zdn ?_;refine q_block_r (q_then_r ?_);exact k.o):p:=h ⟨k⟩
theorem ready11_c {A R:SP}{C:SP->SP}{d:Nat}{s:DevS}(hc:Ct A (Dev d s) R C:=by exact cbqz){bl at_ sz:Nat}(hl:Has R bl (cl (lcs11 d at_ sz) 183):=by exact hbqz):
    Fn Tryz.prog 158 #[pz bl] A (λ r B=>r= .int .i64 (stE s)/\ A=B):=by
  refine fn_enterW func158 rfl ntmps158 (by simp) ?_;obtain ⟨rfl,hC⟩:=hc;refine Zb9 ?_;refine Zr ?_;refine Zb ?_;refine tv (o_eqp underlying75 rfl rfl) ?_;refine tlm ?_;refine tl_bool (d:=6) rfl dbq (sbq ?_);intro h;refine Zff ?_;refine Zc3 ?_;refine tv (o_eqp underlying28 rfl rfl) ?_;refine tv (o_pick_f rfl wqz) ?_;refine Zcz ?_;intro h;refine Z7 ?_;refine Zc3 ?_;refine tl_c rfl (o_call bd34 rfl (Off_c (s:=s))) ?_;refine Zfb ?_;refine tc_cond rfl (λ h=> ?_) (λ h=> ?_)
  . have ho:s.off=true:=(by first|exact h|simpa using h);refine Zf3 ?_;exact ⟨.int .i64 5,_,res1 rfl rfl,λ _ _ h=>h,by unfold stE;rw [if_pos ho],rfl⟩
  have ho:s.off=false:=(by first|exact h|simpa using h);refine Zdi ?_;refine Zdn ?_;exact ⟨.int .i64 0,_,res1 rfl rfl,λ _ _ h=>h,by unfold stE;rw [if_neg (by rw [ho];decide)],rfl⟩
theorem Zbx {p r:Prop}(k:r)(h:Kq r->p:=by intro k;refine tm 0 rfl kqz rfl (o_move wqz) ?_;refine tm 1 rfl kqz rfl (o_nilCheck rfl) ?_;exact k.o):p:=h ⟨k⟩
theorem Zbw {p r:Prop}(k:r)(h:Kq r->p:=by intro k;refine tm 2 rfl kqz rfl (o_fieldAddr (o:=0) underlying183 rfl rfl sz28 rfl) ?_;refine tm 3 rfl kqz rfl (o_load p28 rfl haqz rfl) ?_;exact k.o):p:=h ⟨k⟩
theorem Zcq {p r:Prop}(k:r)(h:Kq r->p:=by intro k;refine tm 4 rfl kqz rfl (o_move wqz) ?_;refine tm 5 rfl kqz rfl (o_nilCheck rfl) ?_;exact k.o):p:=h ⟨k⟩
theorem Zcm {p r:Prop}(k:r)(h:Kq r->p:=by intro k;refine tm 6 rfl kqz rfl (o_fieldAddr (o:=1) underlying183 rfl rfl sz3 rfl) ?_;refine tm 7 rfl kqz rfl (o_load p3 rfl haqz rfl) ?_;exact k.o):p:=h ⟨k⟩
theorem Zha {p r:Prop}(k:r)(h:Kq r->p:=by intro k;refine Zby ?_;refine tc_ret ?_;exact k.o):p:=h ⟨k⟩
theorem Clear_c {A R:SP}{C:SP->SP}{d:Nat}{s:DevS}(hc:Ct A (Dev d s) R C:=by exact cbqz){bl at_ sz:Nat}(hl:Has R bl (cl (lcs11 d at_ sz) 183):=by exact hbqz)(hlw:LogW (s.ls.length*64) at_ sz:=by assumption)(hroom:Room 1 s:=by assumption):
    Fn Tryz.prog 122 #[pz bl] A (λ r B=>∃e s2,clearS at_ s=(e,s2)/\ r= .int .i64 e/\ B=C (Dev d s2)):=by
  refine fn_enterW func122 rfl ntmps122 (by simp) ?_;refine tc_have (λ _ _ h=>ct_wf2 hc h) λ hw=> ?_
  have htop:=hw.top;have hpos:=hw.pos;obtain ⟨rfl,hC⟩:=hc;have hAC:∀g w,sat g w (R*Dev d s)->sat g w (C (Dev d s)):=λ g w h=>by rw [hC];exact h
  have hlw9:=hlw;obtain ⟨w1,w2,w3,w4,w5⟩:=hlw9;refine Zbl ?_;refine tl_c rfl (o_call bd158 rfl (ready11_c (s:=s) (hl:=hl))) ?_;refine Zd2 ?_;refine tc_cond rfl (sbq ?_) (λ h=> ?_)
  . intro h;refine Zfe ?_;have ho:=stE_off h;exact ⟨.int .i64 (stE s),C (Dev d s),res1 rfl rfl,hAC,stE s,s,by unfold clearS stE;rw [if_pos ho,if_pos ho],rfl,rfl⟩
  have ho:s.off=false:=stE_on (by simpa using h);refine Zcu ?_;refine tc_regh (S:=R) mo drqz ?_
  show TH _ _ _ _ _ 10 (Array.replicate 10 false) _ _
  refine Zbx ?_;refine Zbw ?_;refine Zcq ?_;refine Zcm ?_;refine th_one (i:=8) kqz ?_;refine oh_c rfl rfl rfl (o_call bd164 rfl (Publish_c (s:=s) (p:=(at_:Nat)) (v:=0))) ?_;rintro _ _ ⟨e17,s17,hs17,rfl,rfl⟩;refine ⟨by repeat (first|with_reducible exact dr_refl|apply dr_keep|apply dr_drop), ?_⟩;refine tm 9 rfl kqz rfl (o_assign wqz) ?_;refine Zha ?_;exact ⟨.int .i64 e17,C (Dev d s17),res1 rfl rfl,λ _ _ h=>by rw [hC];exact h,e17,s17,by unfold clearS;rw [if_neg (by rw [ho];decide)];exact hs17,rfl,rfl⟩
end Go.Vl

namespace Go.Vl
open Go Go.Proofs Go.Proofs.Tryz
def xcl (l:List (Int×Int)):List Value:=l.flatMap xcs
theorem xcl_len (l:List (Int×Int)):(xcl l).length=l.length*2:=fm_length (f:=xcs) λ _ _=>rfl
theorem xcl_at {l:List (Int×Int)}{j:Nat}(h:j<l.length):((xcl l).drop (j*2)).take 2=xcs l[j]:=fm_at (f:=xcs) (λ _ _=>rfl) h
theorem lensX_succ {l:List (Int×Int)}{i:Nat}(h:i<l.length):lensX (l.take (i+1))=lensX (l.take i)++[l[i].2]:=by
  rw [List.take_succ_eq_append_getElem h];unfold lensX;rw [List.map_append];rfl
theorem lensX_len (l:List (Int×Int)):(lensX l).length=l.length:=by unfold lensX;rw [List.length_map]
theorem may_nat {n at_ sz:Nat}{x:Int×Int}(h:mayX n at_ sz x=true):∃p m:Nat,x=((p:Int),(m:Int))/\ 64<=p/\ 1<=m/\ p+m<=n/\ (p+m<=at_∨at_+sz<=p):=by
  have h1:=of_decide_eq_true h;obtain ⟨p,hp⟩:=Int.eq_ofNat_of_zero_le (show 0<=x.1 by omega);obtain ⟨m,hm⟩:=Int.eq_ofNat_of_zero_le (show 0<=x.2 by omega);exact ⟨p,m,by cases x;simp only at hp hm;rw [hp,hm],by omega,by omega,by omega,by omega⟩
theorem word_in {p:Nat}{s:DevS}(ho:s.off=false)(hp:p%8=0)(hi:p+8<=s.ls.length*64):wordP (p:Nat) s=(nm (((imgS s).drop p).take 8),0):=by
  unfold wordP loadP
  rw [if_neg (by rw [ho];decide),if_neg oqz,ho,if_neg (by rw [rdy_ok oqz oqz oqz];decide),Int.toNat_natCast]
theorem nm8_lt {l:List Nat}(h:∀x∈l,x<256):nm (l.take 8)<18446744073709551616:=by
  have h1:=nm_lt (l.take 8) λ x hx=>h x (List.mem_of_mem_take hx)
  exact Nat.lt_of_lt_of_le h1 (by calc 256^(l.take 8).length<=256^8:=Nat.pow_le_pow_right (by decide) (List.length_take_le _ _)
    _=18446744073709551616:=by decide)
theorem putF_e {q p m:Nat}{l:List (Int×Int)}{s s2:DevS}{e:Int}(h:sto (q:Nat) (recS p (((imgS s).drop p).take m)) s=(e,s2))(he:e≠0):putF q (((p:Int),(m:Int))::l) s=(e,s2):=by
  show (if (sto (q:Nat) (recS p (((imgS s).drop p).take m)) s).1≠0 then sto (q:Nat) (recS p (((imgS s).drop p).take m)) s else _)=_
  rw [h,if_pos he]
theorem putF_o {q p m:Nat}{l:List (Int×Int)}{s s2:DevS}(h:sto (q:Nat) (recS p (((imgS s).drop p).take m)) s=(0,s2)):putF q (((p:Int),(m:Int))::l) s=putF (q+(24+up8 m)) l s2:=by
  show (if (sto (q:Nat) (recS p (((imgS s).drop p).take m)) s).1≠0 then _ else putF (q+(24+up8 m)) l (sto (q:Nat) (recS p (((imgS s).drop p).take m)) s).2)=_
  rw [h,if_neg (by simp)]
theorem needN_ge:∀ (l:List (Int×Int)),l.length<=needN l
  |[]=>Nat.zero_le _
  |x::l=>by have:=needN_ge l;rw [needN_cons,List.length_cons];omega
theorem all_drop {α:Type}{p:α->Bool}{l:List α}(h:l.all p=true){i:Nat}(hi:i<l.length):p l[i]=true:=List.all_eq_true.1 h _ (List.getElem_mem hi)
theorem all_take {α:Type}{p:α->Bool}{l:List α}{i:Nat}(hi:i<l.length)(h:(l.take i).all p=true)(hp:p l[i]=true):(l.take (i+1)).all p=true:=by
  rw [List.take_succ_eq_append_getElem hi,List.all_append,h];simp [hp]
theorem all_not {α:Type}{p:α->Bool}{l:List α}{i:Nat}(hi:i<l.length)(hp:p l[i]=false):l.all p=false:=by
  rw [List.all_eq_false];exact ⟨_,List.getElem_mem hi,by rw [hp];decide⟩
attribute [local irreducible] crk crL crc Sl pt ro Dev imgS recS
theorem Zg0 {p r:Prop}(k:r)(h:Kq r->p:=by intro k;refine ql_v rfl (o_fieldAddr (o:=0) underlying183 rfl rfl sz28 rfl) ?_;refine ql_v rfl (o_load p28 rfl haqz rfl) ?_;exact k.o):p:=h ⟨k⟩
theorem Zgx {p r:Prop}(k:r)(h:Kq r->p:=by intro k;rintro _ _ ⟨rfl,rfl⟩;refine tlm ?_;exact k.o):p:=h ⟨k⟩
theorem Ze3 {p r:Prop}(k:r)(h:Kq r->p:=by intro k;refine Zc ?_;refine Z7 ?_;exact k.o):p:=h ⟨k⟩
theorem Write_c {A R:SP}{C:SP->SP}{d:Nat}{s:DevS}(hc:Ct A (Dev d s) R C:=by exact cbqz){bl at_ sz:Nat}(hl:Has R bl (cl (lcs11 d at_ sz) 183):=by exact hbqz)(hlw:LogW (s.ls.length*64) at_ sz:=by assumption){a:Option Addr}{c m:Nat}{xs:List (Int×Int)}(hr:Rs R a (xcl xs):=by exact rbqz)(hm:xs.length=m:=by first|assumption|rfl)(hX:∀x∈xs,XW x:=by assumption)(hml:m<=17592186044416:=by omega)(hroom:Room (sz+1) s:=by assumption):
    Fn Tryz.prog 121 #[pz bl,.slice a m c] A (λ r B=>∃e s2,writeS at_ sz xs s=(e,s2)/\ r= .int .i64 e/\ B=C (Dev d s2)):=by
  refine fn_enterW func121 rfl ntmps121 (by simp) ?_;refine tc_have (λ _ _ h=>ct_wf2 hc h) λ hw=> ?_
  have htop:=hw.top;have hpos:=hw.pos;obtain ⟨rfl,hC⟩:=hc;have hAC:∀g w,sat g w (R*Dev d s)->sat g w (C (Dev d s)):=λ g w h=>by rw [hC];exact h
  have hlw9:=hlw;obtain ⟨w1,w2,w3,w4,w5⟩:=hlw9;refine Zbl ?_;refine tl_c rfl (o_call bd158 rfl (ready11_c (s:=s) (hl:=hl))) ?_;refine Zd2 ?_;refine tc_cond rfl (sbq ?_) (λ h=> ?_)
  . intro h;refine Zfe ?_;have ho:=stE_off h;exact ⟨.int .i64 (stE s),C (Dev d s),res1 rfl rfl,λ _ _ h=>by rw [hC];exact (Dr.sat (A':=R*Dev d s) drqz) _ _ h,stE s,s,by unfold writeS stE;rw [if_pos ho,if_pos ho],rfl,rfl⟩
  have ho:s.off=false:=stE_on (by simpa using h);have hw2:=word_in (p:=at_) ho oqz oqz;obtain ⟨v,hv⟩:∃v,(wordP (at_:Nat) s).1=v:=⟨_,rfl⟩;have hvl:v<18446744073709551616:=(by rw [←hv,hw2];exact nm8_lt λ x hx=>img_lt x (List.mem_of_mem_drop hx));refine Zcu ?_;refine Zfl ?_;refine Zcv ?_;refine Zg0 ?_;refine Zcv ?_;refine Zcw ?_;refine ql_c rfl (λ w=>exec_call bd159 rfl) (Word_c (s:=s) (p:=(at_:Nat))) ?_;refine ql_v rfl (o_move wqz) ?_;refine ql_v rfl (o_extract rfl rfl) ?_;refine ql_env (d:=36) (v:= .int .u64 (v:Nat)) (by show Value.int .u64 ((wordP (at_:Nat) s).1:Nat)=_;rw [hv]) ?_;refine ql_v rfl (o_extract rfl rfl) ?_;refine ql_env (d:=37) (v:= .int .i64 0) (by show Value.int .i64 (wordP (at_:Nat) s).2=_;rw [hw2]) ?_;refine ql_v rfl (o_assign wqz) ?_;refine Zf7 ?_;refine Zb ?_;refine Zc9 ?_;refine tl_bool (d:=40) rfl dbq (sbq ?_);intro h;refine tlm ?_;refine tv (o_nei rfl rfl) ?_;refine tv (o_pick_f rfl wqz) ?_;refine nq ?_;refine tc_cond rfl (λ h=> ?_) (λ h=> ?_)
  . have hv0:v≠0:=(by first|(have h9:=of_decide_eq_true h;omega)|(simp at h;omega));refine Zdb ?_;exact ⟨.int .i64 (3),C (Dev d s),res1 rfl rfl,λ _ _ h=>by rw [hC];exact (Dr.sat (A':=R*Dev d s) drqz) _ _ h,3,s,by unfold writeS;rw [if_neg (by rw [ho];decide),if_pos (by rw [hv];exact hv0)],rfl,rfl⟩
  have hv0:¬v≠0:=(by first|(have h9:=of_decide_eq_false h;omega)|(simp at h;omega));refine Zc ?_;refine Zbl ?_;refine tv (o_len underlying162 rfl) ?_;refine Zet ?_;refine tc_pre (A':=R*Dev d s*Sl 1 (.slice none 0 0) 0 (ints (lensX (xs.take 0)))) (λ _ _ h=>sl_nil h) ?_;refine tc_loop (λ kk ρ BB=>∃ (i:Nat) (a8:Option Addr) (c8:Nat),(i<=m)/\ ((xs.take i).all (mayX (s.ls.length*64) at_ sz)=true)/\ (i<=c8)/\ kk=m-i/\ ρ 8= .slice a8 i c8/\ ρ 46=(vn i)/\ ρ 0=(pz bl)/\ ρ 1= .slice a m c/\ ρ 44= .slice a m c/\ ρ 45=(vn m)/\ Dr BB (R*Dev d s*Sl 1 (.slice a8 i c8) i (ints (lensX (xs.take i))))) (m:=m-(0)) ?_ ?_
  . exact ⟨0,none,0,by omega,rfl,by omega,rfl,rfl,rfl,rfl,rfl,rfl,rfl,drqz⟩
  intro k ρ B hI;obtain ⟨i,a8,c8,hp0,hp1,hp2,hkk1,hE8,hE46,hE0,hE1,hE44,hE45,hBA⟩:=hI;refine tc_pre hBA.sat ?_;clear hBA;refine te 8 hE8 ?_;refine te 46 hE46 ?_;refine te 0 hE0 ?_;refine te 1 hE1 ?_;refine te 44 hE44 ?_;refine te 45 hE45 ?_;refine Zcf ?_;refine tc_cond rfl (λ h=> ?_) (λ h=> ?_)
  . have hi:i<xs.length:=(by first|omega|(simp at h;omega));obtain ⟨x,hx1⟩:∃x,xs[i]=x:=⟨_,rfl⟩;have hxw:XW x:=hX x (hx1▸List.getElem_mem hi);refine Zec ?_;refine tv (o_ixP (a:=a) underlying162 sz195 rfl rfl oqz (nn_rs (by repeat (first|with_reducible exact rs_sl|assumption|apply Rs.left)) (λ _=>by rw [xcl_len];omega))) ?_;refine tv (o_ldPN (a:=a) (xs:=xcl xs) (vs:=xcs x) a195 sz195 rfl (by repeat (first|with_reducible exact rs_sl|assumption|apply Rs.left)) (by rw [xcl_at oqz,hx1]) rfl (by decide)) ?_;refine tl_x rfl (o_alloc z195 rfl) ?_;rintro _ _ ⟨b10,rfl,rfl⟩;refine tl_u rfl (o_stUN (l':=xcs x) rfl upqz sz195 rfl rfl rfl (by show 2<=2;decide) rfl) ?_;refine nq ?_;refine Ze ?_;refine tv (o_loadN (vs:=xcs x) a195 sz195 rfl hsqz (by show 2<=2;decide) rfl) ?_;refine tl_c rfl (o_call bd160 rfl (may11_c (s:=s) (x:=x) (hl:=has_left (has_left (has_left hl))))) ?_;refine Zbf ?_;refine nq ?_;refine tc_cond rfl (λ h=> ?_) (λ h=> ?_)
    . have hmy:mayX (s.ls.length*64) at_ sz x=false:=(by simpa using h);refine sr ?_;refine Zck ?_;exact ⟨.int .i64 (6),C (Dev d s),res1 rfl rfl,λ _ _ h=>by rw [hC];exact (Dr.sat (A':=R*Dev d s) drqz) _ _ h,6,s,by unfold writeS;rw [if_neg (by rw [ho];decide),if_neg (by rw [hv];exact hv0),if_pos (all_not hi (by rw [hx1];exact hmy))],rfl,rfl⟩
    have hmy:mayX (s.ls.length*64) at_ sz x=true:=(by simpa using h);refine Zc ?_;refine Zw ?_;refine Zbn ?_;refine tl_x rfl (o_buildSlice1 underlying22 sz3 z3 wqz rfl) ?_;rintro _ _ ⟨b57,rfl,rfl⟩;refine tl_x rfl (o_apB underlying22 underlying22 sz3 by3 z3 rfl (by decide) (by decide) rfl rfl rfl ctqz rfl (by first|exact bys_all _|exact ints_all _|exact wds_all _|exact bos_all _|rfl) sq0z (by first|exact bys_sn _ _|exact ints_sn _ _|exact wds_sn _ _|exact bos_sn _ _|exact (bys_append _ _).symm|rfl)) ?_;rintro _ _ ⟨a58,c58,rfl,hc58,rfl⟩;refine Zgq ?_;exact ⟨_,by omega,i+1,_,_,by omega,all_take hi hp1 (by rw [hx1];exact hmy),hc58,rfl,rfl,rfl,rfl,rfl,rfl,rfl,by rw [lensX_succ hi,hx1];repeat (first|with_reducible exact dr_refl|apply dr_keep|apply dr_drop)⟩
  obtain rfl:i=m:=by first|omega|(simp at h;omega)
  have htk:xs.take i=xs:=List.take_of_length_le oqz;rw [htk] at hp1
  refine tc_pre (A':=R*Dev d s*Sl 1 (.slice a8 i c8) i (ints (lensX xs))) (λ _ _ h=>by rw [htk] at h;exact h) ?_;obtain ⟨nd,en,hnd⟩:∃nd en,needS (lensX xs)=(nd,en):=⟨_,_,rfl⟩;have hxl:∀x∈lensX xs,-9223372036854775808<=x/\ x<=9223372036854775807:=λ x hx=>by obtain ⟨y,hy,rfl⟩:=List.mem_map.1 hx;exact (hX y hy).l
  have hx1:∀x∈xs,1<=x.2:=λ x hx=>by obtain ⟨p,n,rfl,_,hn,_⟩:=may_nat (List.all_eq_true.1 hp1 x hx);show (1:Int)<=(n:Int);omega
  have hnd2:en=0->nd=(needN xs:Nat):=λ h9=>by have:=needF_ok hx1 hnd h9;omega
  refine Zda ?_;refine tl_c rfl (o_call bd161 rfl (Need_c (xs:=lensX xs) (hr:=rs_sl) (hm:=(lensX_len xs).trans hm) (hx:=hxl))) ?_;refine Zgx ?_;refine tv (o_extract rfl rfl) ?_;refine tl_env (d:=63) (v:= .int .i64 nd) (by show Value.int .i64 (needS (lensX xs)).1=_;rw [hnd]) ?_;refine tv (o_extract rfl rfl) ?_;refine tl_env (d:=64) (v:= .int .i64 en) (by show Value.int .i64 (needS (lensX xs)).2=_;rw [hnd]) ?_;refine tla ?_;refine Zgp ?_;refine tc_cut (λ ρ BB=>∃ (bb:Bool),(bb=decide (en≠0∨((sz-64:Nat):Int)<nd))/\ ρ 75= .bool bb/\ ρ 0=(pz bl)/\ ρ 1= .slice a i c/\ ρ 11= .int .i64 nd/\ Dr BB (R*Dev d s)) ?_ ?_
  . skip
    refine Zw ?_;refine Zc9 ?_;refine tl_bool (d:=67) rfl (λ h=> ?_) (λ h=> ?_)
    . have g67:(en≠0):=(by first|exact of_decide_eq_true h|(have h2:=h;simp at h2;omega)|simpa using h);refine Zb3 ?_;refine Zdx ?_;refine tl_nil ?_;exact ⟨_,by first|exact (decide_eq_true oqz).symm|exact (decide_eq_false oqz).symm|(rw [decide_eq_decide];omega),rfl,rfl,rfl,rfl,drqz⟩
    have g67:¬(en≠0):=(by first|exact of_decide_eq_false h|(have h2:=h;simp at h2;omega)|simpa using h);refine Zbc ?_;refine tv (o_nilCheck rfl) ?_;refine tv (o_fieldAddr (o:=2) underlying183 rfl rfl sz3 rfl) ?_;refine tv (o_load p3 rfl haqz rfl) ?_;refine tv (o_subI rfl rfl oqz) ?_;refine tl_env (d:=73) (v:=(vn (sz-64))) (by show Value.int .i64 ((sz:Int)-64)=_;congr 1;omega) ?_;refine Zb5 ?_;refine tl_nil ?_;exact ⟨_,by first|exact (decide_eq_true oqz).symm|exact (decide_eq_false oqz).symm|(rw [decide_eq_decide];omega),rfl,rfl,rfl,rfl,drqz⟩
  intro ρ B hI;obtain ⟨bb,hbb0,hE75,hE0,hE1,hE11,hBA⟩:=hI;refine q_then_n ?_;refine tc_pre hBA.sat ?_;clear hBA;refine te 75 hE75 ?_;refine te 0 hE0 ?_;refine te 1 hE1 ?_;refine te 11 hE11 ?_;refine tc_cond rfl (λ h=> ?_) (λ h=> ?_)
  . have hful:=of_decide_eq_true (show decide (en≠0∨((sz-64:Nat):Int)<nd)=true by rw [←hbb0];exact h);refine Zdb ?_;exact ⟨.int .i64 (111),C (Dev d s),res1 rfl rfl,λ _ _ h=>by rw [hC];exact (Dr.sat (A':=R*Dev d s) drqz) _ _ h,111,s,by unfold writeS;rw [if_neg (by rw [ho];decide),if_neg (by rw [hv];exact hv0),if_neg (by rw [hp1];decide),hnd,if_pos hful],rfl,rfl⟩
  have hful:=of_decide_eq_false (show decide (en≠0∨((sz-64:Nat):Int)<nd)=false by rw [←hbb0];exact h);obtain rfl:en=0:=by omega
  obtain rfl:=hnd2 rfl;have hN:needN xs<=sz-64:=(by omega);refine Zcd ?_;refine Zdq ?_;refine tc_cond rfl (λ h=> ?_) (λ h=> ?_)
  . have hx0:xs=[]:=(by have h9:=needN_ge xs;have h8:needN xs=0:=(by first|(have:=of_decide_eq_true h;omega)|(simp at h;omega));exact List.eq_nil_of_length_eq_zero oqz);refine Zdb ?_;exact ⟨.int .i64 (0),C (Dev d s),res1 rfl rfl,λ _ _ h=>by rw [hC];exact (Dr.sat (A':=R*Dev d s) drqz) _ _ h,0,s,by unfold writeS;rw [if_neg (by rw [ho];decide),if_neg (by rw [hv];exact hv0),if_neg (by rw [hp1];decide),hnd,if_neg hful,if_pos hx0],rfl,rfl⟩
  have hx0:xs≠[]:=λ e=>by subst e;first|exact of_decide_eq_false h rfl|exact h rfl|(simp [needN] at h)
  have hxl0:0<xs.length:=List.length_pos_iff.2 hx0;have hN1:=needN_ge xs;refine Ze3 ?_;refine tv (o_fieldAddr (o:=1) underlying183 rfl rfl sz3 rfl) ?_;refine tv (o_load p3 rfl haqz rfl) ?_;refine tv adqz ?_;refine tl_env (d:=82) (v:=(vn (at_+64))) (by first|rfl|(show Value.int .i64 _=_;congr 1;omega)) ?_;refine Zp ?_;refine tv (o_len underlying162 rfl) ?_;refine Zet ?_;refine tc_loop (λ kk ρ BB=>∃ (j:Nat) (q:Nat) (s1:DevS),(j<=i)/\ (putF (at_+64) xs s=putF q (xs.drop j) s1)/\ (s1.off=false)/\ (s1.ls.length=s.ls.length)/\ (q+needN (xs.drop j)=at_+64+needN xs)/\ (Room (needN (xs.drop j)+1) s1)/\ kk=i-j/\ ρ 13=(vn q)/\ ρ 85=(vn j)/\ ρ 0=(pz bl)/\ ρ 1= .slice a i c/\ ρ 11= .int .i64 (needN xs:Nat)/\ ρ 83= .slice a i c/\ ρ 84=(vn i)/\ Dr BB (R*Dev d s1)) (m:=i-(0)) ?_ ?_
  . exact ⟨0,at_+64,s,by omega,rfl,ho,rfl,by rw [List.drop_zero],λ l hl=>by have:=hroom l hl;rw [List.drop_zero];omega,rfl,rfl,rfl,rfl,rfl,rfl,rfl,rfl,drqz⟩
  intro k ρ B hI;obtain ⟨j,q,s1,hq0,hq1,hq2,hq3,hq4,hq5,hkk2,hE13,hE85,hE0,hE1,hE11,hE83,hE84,hBA⟩:=hI;refine tc_pre hBA.sat ?_;clear hBA;refine te 13 hE13 ?_;refine te 85 hE85 ?_;refine te 0 hE0 ?_;refine te 1 hE1 ?_;refine te 11 hE11 ?_;refine te 83 hE83 ?_;refine te 84 hE84 ?_;refine Zcf ?_;refine tc_cond rfl (λ h=> ?_) (λ h=> ?_)
  . have hj:j<xs.length:=(by first|omega|(simp at h;omega));obtain ⟨x,hx1⟩:∃x,xs[j]=x:=⟨_,rfl⟩;have hmx:=all_drop hp1 hj;have hdr:=List.drop_eq_getElem_cons hj;rw [hx1] at hmx hdr
    obtain ⟨p,n,rfl,y1,y2,y3,y4⟩:=may_nat hmx;rw [hdr,needN_cons] at hq4 hq5
    simp only [Int.toNat_natCast] at hq4 hq5
    refine tc_have (λ _ _ h=>ct_wf2 ctqz h) λ hw1=> ?_
    have hil:=imgS_len hw1;have hol:(((imgS s1).drop p).take n).length=n:=(by rw [List.length_take,List.length_drop,hil,hq3];omega);have hrl:(recS p (((imgS s1).drop p).take n)).length=24+up8 n:=(by rw [recS_len,hol]);have hrb:∀x∈recS p (((imgS s1).drop p).take n),x<256:=recS_b img_sub;have hu8:=up8_le n;refine Zec ?_;refine tv (o_ixP (a:=a) underlying162 sz195 rfl rfl oqz (nn_rs (by repeat (first|with_reducible exact rs_sl|assumption|apply Rs.left)) (λ _=>by rw [xcl_len];omega))) ?_;refine tv (o_ldPN (a:=a) (xs:=xcl xs) (vs:=xcs ((p:Int),(n:Int))) a195 sz195 rfl (by repeat (first|with_reducible exact rs_sl|assumption|apply Rs.left)) (by rw [xcl_at oqz,hx1]) rfl (by decide)) ?_;refine tl_x rfl (o_alloc z195 rfl) ?_;rintro _ _ ⟨b15,rfl,rfl⟩;refine tl_u rfl (o_stUN (l':=xcs ((p:Int),(n:Int))) rfl upqz sz195 rfl rfl rfl (by show 2<=2;decide) rfl) ?_;refine Zeq ?_;refine tc_regh (S:=R*pt b15 (cl (xcs ((p:Int),(n:Int))) 195)) mo drqz ?_
    show TH _ _ _ _ _ 14 (Array.replicate 14 false) _ _
    refine Zbx ?_;refine Zbw ?_;refine tm 4 rfl kqz rfl (o_fieldAddr (o:=0) underlying195 rfl rfl sz3 rfl) ?_;refine tm 5 rfl kqz rfl (by first|exact o_load p3 rfl hsqz rfl|exact o_loadC p3 rfl (by assumption)) ?_;refine tm 6 rfl kqz rfl (o_fieldAddr (o:=1) underlying195 rfl rfl sz3 rfl) ?_;refine tm 7 rfl kqz rfl (by first|exact o_load p3 rfl hsqz rfl|exact o_loadC p3 rfl (by assumption)) ?_;refine th_one (i:=8) kqz ?_;refine oh_c rfl rfl rfl (o_call bd115 rfl (Load_c (s:=s1) (p:=p) (m:=n))) ?_;rintro _ _ ⟨a98,c98,rfl,hc98,rfl⟩;refine ⟨by repeat (first|with_reducible exact dr_refl|apply dr_keep|apply dr_drop), ?_⟩;refine tm 9 rfl kqz rfl (o_move wqz) ?_;refine tm 10 rfl kqz rfl (o_extract rfl rfl) ?_;refine tm 11 rfl kqz rfl (o_extract rfl rfl) ?_;refine tm 12 rfl kqz rfl (o_assign wqz) ?_;refine tm 13 rfl kqz rfl (o_assign wqz) ?_;refine Zby ?_;refine Ze ?_;refine Z3 ?_;intro h;refine Zc ?_;refine sr ?_;refine Zbo ?_;refine tlm ?_;refine tl_c rfl (o_call bd162 rfl (record_c (p:=p) (xs:=((imgS s1).drop p).take n) (hr:=rs_sl) (hm:=hol) (hb:=img_sub))) ?_;rintro _ _ ⟨a107,c107,rfl,hc107,rfl⟩;refine Zp ?_;refine tv (o_nilCheck rfl) ?_;refine Zc3 ?_;refine Zbc ?_;refine tl_c rfl (o_call bd154 rfl (Store_c (s:=s1) (p:=(q:Nat)) (xs:=recS p (((imgS s1).drop p).take n)) (hm:=hrl) (hb:=hrb) (hroom:=λ _ l hl=>by have:=hq5 l hl;omega))) ?_;rintro _ _ ⟨e114,s114,hs114,rfl,rfl⟩;refine Zdy ?_;refine tc_cond rfl (λ h=> ?_) (λ h=> ?_)
    . have he0:e114≠0:=(by simpa using h);have hput:putF (at_+64) xs s=(e114,s114):=(by rw [hq1,hdr];exact putF_e hs114 he0);refine Zb ?_;refine Zck ?_;exact ⟨.int .i64 (e114),C (Dev d s114),res1 rfl rfl,λ _ _ h=>by rw [hC];exact (Dr.sat (A':=R*Dev d s114) drqz) _ _ h,e114,s114,by unfold writeS;rw [if_neg (by rw [ho];decide),if_neg (by rw [hv];exact hv0),if_neg (by rw [hp1];decide),hnd,if_neg hful,if_neg hx0,hput,if_pos he0],rfl,rfl⟩
    obtain rfl:e114=0:=by simpa using h
    refine Zc ?_;refine Zdr ?_;refine tv (o_len underlying32 rfl) ?_;refine tv adqz ?_;refine tl_env (d:=121) (v:= .int .i64 ((q+(24+up8 n):Nat):Int)) (by first|rfl|(show Value.int .i64 _=_;congr 1;omega)) ?_;refine Zgq ?_;exact ⟨_,by omega,j+1,_,_,by omega,by rw [hq1,hdr];exact putF_o hs114,by rw [sto_on hs114];exact hq2,by have h9:=sto_len (q:Nat) (recS p (((imgS s1).drop p).take n)) s1;rw [hs114] at h9;exact h9.trans hq3,by omega,sto_room hs114 hw1 hrb (λ l hl=>by have:=hq5 l hl;rw [hrl];omega),rfl,rfl,rfl,rfl,rfl,rfl,rfl,rfl,drqz⟩
  obtain rfl:j=i:=by first|omega|(simp at h;omega)
  have hput:putF (at_+64) xs s=(0,s1):=(by rw [hq1,List.drop_eq_nil_of_le oqz];rfl);refine tc_have (λ _ _ h=>ct_wf2 ctqz h) λ hw1=> ?_
  have hr1:Room 1 s1:=λ l hl=>by have:=hq5 l hl;omega
  refine Zg ?_;refine tc_seq ?_;refine tc_seq ?_;refine tc_regh (S:=R) mo drqz ?_
  show TH _ _ _ _ _ 12 (Array.replicate 12 false) _ _
  refine Zbx ?_;refine Zbw ?_;refine Zcq ?_;refine Zcm ?_;refine tm 8 rfl kqz rfl adqz ?_;refine th_env (d:=131) (v:=(vn (at_+64))) (by first|rfl|(show Value.int .i64 _=_;congr 1;omega)) ?_;refine tm 9 rfl kqz rfl (o_move wqz) ?_;refine th_one (i:=10) kqz ?_;refine oh_c rfl rfl rfl (o_call bd163 rfl (Range_c (s:=s1) (p:=((at_+64:Nat):Int)) (m:=(needN xs:Nat)))) ?_;rintro _ _ ⟨e133,s133,hs133,rfl,rfl⟩;refine ⟨by repeat (first|with_reducible exact dr_refl|apply dr_keep|apply dr_drop), ?_⟩;refine tm 11 rfl kqz rfl (o_assign wqz) ?_;refine Zby ?_;refine Zb ?_;refine Zk ?_;refine tc_cond rfl (λ h=> ?_) (λ h=> ?_)
  . have he1:e133≠0:=(by simpa using h);refine Zfe ?_;exact ⟨.int .i64 (e133),C (Dev d s133),res1 rfl rfl,λ _ _ h=>by rw [hC];exact (Dr.sat (A':=R*Dev d s133) drqz) _ _ h,e133,s133,by unfold writeS;rw [if_neg (by rw [ho];decide),if_neg (by rw [hv];exact hv0),if_neg (by rw [hp1];decide),hnd,if_neg hful,if_neg hx0,hput,if_neg (by simp)];simp only [];rw [hs133,if_pos he1],rfl,rfl⟩
  obtain rfl:e133=0:=by simpa using h
  have hr2:=rangeP_room hs133 hw1 hr1;refine Zcu ?_;refine tc_regh (S:=R) mo drqz ?_
  show TH _ _ _ _ _ 13 (Array.replicate 13 false) _ _
  refine Zbx ?_;refine Zbw ?_;refine Zcq ?_;refine Zcm ?_;refine tm 8 rfl kqz rfl (o_move wqz) ?_;refine tm 9 rfl kqz rfl (o_len underlying162 rfl) ?_;refine tm 10 rfl kqz rfl (by first|exact o_conv64 underlying3 underlying36 rfl|exact o_conv underlying3 underlying36 rfl) ?_;refine th_env (d:=147) (v:= .int .u64 ((xs.length:Nat):Int)) (by rw [hm];exact congrArg (λ z:Nat=>Value.int .u64 (z:Int)) (Nat.mod_eq_of_lt oqz)) ?_;refine th_one (i:=11) kqz ?_;refine oh_c rfl rfl rfl (o_call bd164 rfl (Publish_c (s:=s133) (p:=(at_:Nat)) (v:=xs.length))) ?_;rintro _ _ ⟨e148,s148,hs148,rfl,rfl⟩;refine ⟨by repeat (first|with_reducible exact dr_refl|apply dr_keep|apply dr_drop), ?_⟩;refine tm 12 rfl kqz rfl (o_assign wqz) ?_;refine Zha ?_;exact ⟨.int .i64 (e148),C (Dev d s148),res1 rfl rfl,λ _ _ h=>by rw [hC];exact (Dr.sat (A':=R*Dev d s148) drqz) _ _ h,e148,s148,by unfold writeS;rw [if_neg (by rw [ho];decide),if_neg (by rw [hv];exact hv0),if_neg (by rw [hp1];decide),hnd,if_neg hful,if_neg hx0,hput,if_neg (by simp)];simp only [];rw [hs133,if_neg (by simp)];exact hs148,rfl,rfl⟩
end Go.Vl

namespace Go.Vl
open Go Go.Proofs Go.Proofs.Tryz
def phi (s:DevS):Nat:=s.arms.length+(if s.off=true then 1 else 0)
theorem done_phi (s:DevS):phi (doneS s)<=phi s:=by
  unfold phi doneS
  cases e:s.arms with
  |nil=>simp [e]
  |cons a ar=>
    simp only
    split
    . simp [e]
    simp only [goesS,if_true,List.length_cons];omega
theorem phi_of {s s':DevS}(h1:s'.arms=s.arms)(h2:s'.off=s.off):phi s'=phi s:=by unfold phi;rw [h1,h2]
theorem phi_onLine (f:LineS->LineS)(i:Nat)(s:DevS):phi (onLine f i s)=phi s:=phi_of (onLine_fields f i s).2.1 (onLine_fields f i s).2.2.2.1
theorem lay_phi (q v:Nat)(s:DevS):phi (layS q v s)=phi s:=by unfold layS;exact phi_onLine _ _ _
theorem storeF_phi:∀ (m:Nat) {p:Nat} {b:List Nat} {s:DevS},b.length=m->phi (storeF b.length p b s).2<=phi s:=by
  intro m
  induction m using Nat.strongRecOn with
  |_ m ih=>
    intro p b s hm
    by_cases h0:b=[]
    . subst h0;rw [storeF_nil];exact Nat.le_refl _
    have hpos:0<b.length:=List.length_pos_iff.2 h0;rw [storeF_step h0]
    have h1:=done_phi (layS (p-p%8) (nm (stW p b s)) s);rw [lay_phi] at h1
    split
    . exact h1
    exact Nat.le_trans (ih (b.drop (8-p%8)).length (by rw [List.length_drop];omega) rfl) h1
theorem sto_phi (p:Int)(b:List Nat)(s:DevS):phi (sto p b s).2<=phi s:=by
  unfold sto;split
  . exact Nat.le_refl _
  exact storeF_phi _ rfl
theorem fl1_phi (p:Int)(s:DevS):phi (fl1 p s).2<=phi s:=by
  unfold fl1;split
  . exact Nat.le_refl _
  have h1:=done_phi (flushS p.toNat s);have:phi (flushS p.toNat s)=phi s:=(by unfold flushS;exact phi_onLine _ _ _)
  show phi (doneS (flushS p.toNat s))<=phi s
  omega
theorem fe_phi (s:DevS):phi (fe s).2<=phi s:=by
  unfold fe;split
  . exact Nat.le_refl _
  have h1:=done_phi (fenceS s);have:phi (fenceS s)=phi s:=phi_of rfl rfl
  simp only;omega
theorem flF_phi:∀ (k q:Nat) (s:DevS),phi (flF k q s).2<=phi s
  |0,_,s=>fe_phi s
  |k+1,q,s=>by
    show phi (if (fl1 ((q*64:Nat):Int) s).1≠0 then fl1 ((q*64:Nat):Int) s else flF k (q+1) (fl1 ((q*64:Nat):Int) s).2).2<=_
    have h1:=fl1_phi ((q*64:Nat):Int) s
    split
    . exact h1
    exact Nat.le_trans (flF_phi k _ _) h1
theorem flL_phi:∀ (k q:Nat) (s:DevS),phi (flL k q s).2<=phi s
  |0,_,s=>Nat.le_refl _
  |k+1,q,s=>by
    show phi (if (fl1 ((q*64:Nat):Int) s).1≠0 then fl1 ((q*64:Nat):Int) s else flL k (q+1) (fl1 ((q*64:Nat):Int) s).2).2<=_
    have h1:=fl1_phi ((q*64:Nat):Int) s
    split
    . exact h1
    exact Nat.le_trans (flL_phi k _ _) h1
theorem lastS_phi (p m:Nat)(s:DevS):phi (lastS p m s).2<=phi s:=flF_phi _ _ _
theorem st8_phi (p:Int)(v:Nat)(s:DevS):phi (st8 p v s).2<=phi s:=by
  unfold st8;split
  . exact Nat.le_refl _
  split
  . exact Nat.le_refl _
  have h1:=done_phi (layS p.toNat v s);rw [lay_phi] at h1;exact h1
theorem pubP_phi (p:Int)(v:Nat)(s:DevS):phi (pubP p v s).2<=phi s:=by
  unfold pubP
  have h1:=st8_phi p v s
  split
  . exact h1
  exact Nat.le_trans (lastS_phi _ _ _) h1
theorem rangeP_phi (p m:Int)(s:DevS):phi (rangeP p m s).2<=phi s:=by
  unfold rangeP
  split;exact Nat.le_refl _
  split;exact Nat.le_refl _
  split;exact Nat.le_refl _
  exact lastS_phi _ _ _
theorem putF_phi:∀ (l:List (Int×Int)) (q:Nat) (s:DevS),phi (putF q l s).2<=phi s
  |[],_,_=>Nat.le_refl _
  |x::l,q,s=>by
    show phi (if (sto (q:Nat) (recS x.1.toNat (((imgS s).drop x.1.toNat).take x.2.toNat)) s).1≠0 then sto (q:Nat) (recS x.1.toNat (((imgS s).drop x.1.toNat).take x.2.toNat)) s
      else putF (q+(24+up8 x.2.toNat)) l (sto (q:Nat) (recS x.1.toNat (((imgS s).drop x.1.toNat).take x.2.toNat)) s).2).2<=_
    have h1:=sto_phi (q:Nat) (recS x.1.toNat (((imgS s).drop x.1.toNat).take x.2.toNat)) s
    split
    . exact h1
    exact Nat.le_trans (putF_phi l _ _) h1
theorem writeS_phi (at_ sz:Nat)(l:List (Int×Int))(s:DevS):phi (writeS at_ sz l s).2<=phi s:=by
  unfold writeS
  have h1:=putF_phi l (at_+64) s;have h2:=rangeP_phi ((at_+64:Nat):Int) (needS (lensX l)).1 (putF (at_+64) l s).2
  repeat' (split;· first|exact Nat.le_refl _|exact h1|exact Nat.le_trans h2 h1)
  exact Nat.le_trans (pubP_phi _ _ _) (Nat.le_trans h2 h1)
theorem chunk_at {q j:Nat}{I:List Nat}(h:j<64):(chunk q I)[j]? =I[q*64+j]? :=by
  unfold chunk;rw [List.getElem?_take,if_pos h,List.getElem?_drop]
theorem img_ext {n:Nat}{I J:List Nat}(hI:I.length=n*64)(hJ:J.length=n*64)(h:∀q,q<n->chunk q I=chunk q J):I=J:=by
  apply List.ext_getElem?
  intro i
  rcases Nat.lt_or_ge i (n*64) with hi|hi
  . have:=h (i/64) oqz;have h2:=congrArg (λ l=>l[i%64]?) this
    simp only [chunk_at (show i%64<64 by omega),show i/64*64+i%64=i by omega] at h2
    exact h2
  rw [List.getElem?_eq_none oqz,List.getElem?_eq_none oqz]
def Same (I:List Nat)(s:DevS):Prop:=Poss (λ q c=>c=chunk q I) s
theorem pub_loss {X:Nat->List Nat->Prop}{p v:Nat}{s:DevS}(hw:WfD s)(hO:s.off=false)(hc:Poss X s)(hcl:∀ (q:Nat) (l:LineS),q≠p/64->s.ls[q]? =some l->l.st.length=1)(hp8:p%8=0)(hp:p+8<=s.ls.length*64)(hv:v<18446744073709551616)(hroom:Room 1 s)
    (hX1:X (p/64) (chunk (p/64) (spl (imgS s) p (le 8 v)))):
    ∃e s2,pubP (p:Nat) v s=(e,s2)/\ ((e=0/\ s2.off=false/\ WfD s2/\ Cln s2/\ s2.ls.length=s.ls.length/\ imgS s2=spl (imgS s) p (le 8 v))∨(e=5/\ Lost X s.ls.length s2)):=by
  have hi:p/64<s.ls.length:=(by omega);have hwL:=layS_wf (at_:=p) hw hroom hv;have himg:=img_lay hw hp8 hi hv hroom;have hlen:(layS p v s).ls.length=s.ls.length:=layS_len _ _ _;have hP:=poss_lay hc hi hwL (by rw [himg];exact hX1)
  have hst:st8 (p:Nat) v s=(doneE (layS p v s),doneS (layS p v s)):=by
    unfold st8;rw [hO,rdy_ok oqz oqz oqz,if_neg (by decide),if_neg oqz,Int.toNat_natCast]
  unfold pubP
  rw [hst]
  rcases done_loss hwL hP with ⟨h1,h2,h3⟩|⟨h1,h2⟩
  . simp only []
    rw [h1,if_neg (by decide),Int.toNat_natCast]
    obtain ⟨e,s2,g1,g2⟩:=lastS_loss (X:=X) (p:=p) (m:=8) (s:=doneS (layS p v s)) (doneS_wf hwL) (by rw [h3,layS_off];exact hO) (λ q l hl σ hσ=>by rw [h2] at hl;exact hP q l hl σ hσ) (by decide) (by rw [h2,hlen];exact hp) (λ q l hq hl=>by
      rw [h2,layS_ls hi,List.getElem?_set_ne oqz] at hl
      exact hcl q l oqz hl)
    refine ⟨e,s2,g1, ?_⟩;rw [h2,hlen] at g2
    rcases g2 with ⟨a1,a2,a3,a4,a5,a6⟩|g2
    . exact .inl ⟨a1,a2,a3,a4,a5,by rw [a6];unfold imgS;rw [h2];exact himg⟩
    exact .inr g2
  simp only []
  rw [h1,if_pos (by decide)]
  exact ⟨5,_,rfl,.inr ⟨rfl,by rw [hlen] at h2;exact h2⟩⟩
def recsB (I:List Nat)(l:List (Int×Int)):List Nat:=l.flatMap λ x=>recS x.1.toNat ((I.drop x.1.toNat).take x.2.toNat)
theorem recsB_cons (I:List Nat)(x:Int×Int)(l:List (Int×Int)):recsB I (x::l)=recS x.1.toNat ((I.drop x.1.toNat).take x.2.toNat)++recsB I l:=rfl
def Out (a b:Nat)(I J:List Nat):Prop:=∀i,¬(a<=i/\ i<b)->I[i]? =J[i]?
theorem Out.refl (a b:Nat)(I:List Nat):Out a b I I:=λ _ _=>rfl
theorem Out.trans {a b:Nat}{I J K:List Nat}(h1:Out a b I J)(h2:Out a b J K):Out a b I K:=λ i hi=>(h1 i hi).trans (h2 i hi)
theorem out_spl {a b p:Nat}{I c:List Nat}(hp:p+c.length<=I.length)(h1:a<=p)(h2:p+c.length<=b):Out a b (spl I p c) I:=λ i hi=>by rw [spl_at hp,if_neg oqz]
theorem out_sub {a b p m:Nat}{I J:List Nat}(h:Out a b I J)(hd:p+m<=a∨b<=p):(I.drop p).take m=(J.drop p).take m:=by
  apply List.ext_getElem?
  intro i;rw [List.getElem?_take,List.getElem?_take]
  split
  . rw [List.getElem?_drop,List.getElem?_drop];exact h _ oqz
  rfl
theorem recsB_len {n at_ sz:Nat}{I:List Nat}(hI:I.length=n):∀{l:List (Int×Int)},l.all (mayX n at_ sz)=true->(recsB I l).length=needN l
  |[],_=>rfl
  |x::l,hl=>by
    rw [List.all_cons,Bool.and_eq_true] at hl
    obtain ⟨p,m,rfl,y1,y2,y3,y4⟩:=may_nat hl.1;rw [recsB_cons,List.length_append,recsB_len hI hl.2,needN_cons,recS_len]
    simp only [Int.toNat_natCast]
    rw [show ((I.drop p).take m).length=m by rw [List.length_take,List.length_drop];omega]
theorem put_loss {X:Nat->List Nat->Prop}{at_ sz:Nat}{I0:List Nat}:∀{l:List (Int×Int)} {q r:Nat} {s:DevS},WfD s->s.off=false->Poss X s->LogW (s.ls.length*64) at_ sz->l.all (mayX (s.ls.length*64) at_ sz)=true->at_+64<=q->q+needN l<=at_+sz->Room (r+needN l) s->Out (at_+64) (at_+sz) (imgS s) I0->I0.length=s.ls.length*64→
    (∀I:List Nat,I.length=s.ls.length*64->Out (at_+64) (at_+sz) I I0->∀j,j<s.ls.length->X j (chunk j I))→
    ∃e s2,putF q l s=(e,s2)/\ ((e=0/\ s2.off=false/\ WfD s2/\ Poss X s2/\ s2.ls.length=s.ls.length/\ (∀j:Nat,(j+1)*64<=q∨q+needN l<=j*64->s2.ls[j]? =s.ls[j]?)/\ Room r s2/\ imgS s2=spl (imgS s) q (recsB I0 l))∨(e=5/\ Lost X s.ls.length s2))
  |[],q,r,s,hw,hO,hP,_,_,_,_,hr,_,_,_=>⟨0,s,rfl,.inl ⟨rfl,hO,hw,hP,rfl,λ _ _=>rfl,λ l hl=>by have:=hr l hl;omega,(spl_nil _ _).symm⟩⟩
  |x::l,q,r,s,hw,hO,hP,hlw,hl,hq1,hq2,hr,hout,hI0,hX=>by
    rw [List.all_cons,Bool.and_eq_true] at hl
    obtain ⟨p,m,rfl,y1,y2,y3,y4⟩:=may_nat hl.1;rw [needN_cons] at hq2 hr
    simp only [Int.toNat_natCast] at hq2 hr
    have htop:=hlw.top;have hil:=imgS_len hw;have hol:(((imgS s).drop p).take m).length=m:=(by rw [List.length_take,List.length_drop,hil];omega);have hrl:(recS p (((imgS s).drop p).take m)).length=24+up8 m:=(by rw [recS_len,hol]);have hrb:∀b∈recS p (((imgS s).drop p).take m),b<256:=recS_b img_sub;obtain ⟨b,hb⟩:∃b,recS p (((imgS s).drop p).take m)=b:=⟨_,rfl⟩;rw [hb] at hrl hrb
    have hbo:recS p ((I0.drop p).take m)=b:=(by rw [←hb,out_sub hout oqz])
    have hXs:∀k j,0<k->k<=b.length->((q+k)%8=0∨k=b.length)->j<s.ls.length->X j (chunk j (spl (imgS s) q (b.take k))):=λ k j k0 k1 _ hj=>by
      have hkl:(b.take k).length=k:=(by rw [List.length_take];omega);exact hX _ (by rw [spl_length oqz,hil]) ((out_spl oqz hq1 oqz).trans hout) j hj
    obtain ⟨e,s1,g1,g2⟩:=storeF_loss (X:=X) b.length (p:=q) (r:=r+needN l) (s:=s) rfl hw hO hrb (λ l hl=>by have:=hr l hl;omega) oqz hP hXs
    have hst:sto (q:Nat) (recS p (((imgS s).drop p).take m)) s=(e,s1):=by
      rw [hb];unfold sto;rw [hO,rdy_ok oqz oqz oqz,if_neg (by decide),Int.toNat_natCast];exact g1
    rcases g2 with ⟨a1,⟨a2,a3,a4,a5,a6⟩,a7,a8⟩|⟨a1,a2⟩
    . subst a1;rw [putF_o hst]
      have hout1:Out (at_+64) (at_+sz) (imgS s1) I0:=(by rw [a8];exact (out_spl oqz hq1 oqz).trans hout);obtain ⟨e,s2,k1,k2⟩:=put_loss (X:=X) (I0:=I0) (l:=l) (q:=q+(24+up8 m)) (r:=r) (s:=s1) a3 a2 a4 (by rw [a5];exact hlw) (by rw [a5];exact hl.2) oqz oqz a7 hout1 (by rw [a5];exact hI0) (by rw [a5];exact hX);refine ⟨e,s2,k1, ?_⟩;rw [a5] at k2
      rcases k2 with ⟨b1,b2,b3,b4,b5,b6,b7,b8⟩|k2
      . refine .inl ⟨b1,b2,b3,b4,b5,λ j hj=> ?_,b7, ?_⟩
        . rw [needN_cons] at hj
          simp only [Int.toNat_natCast] at hj
          rw [b6 j oqz,a6 j oqz]
        have hrn:=recsB_len (I:=I0) (n:=s.ls.length*64) (at_:=at_) (sz:=sz) (l:=l) hI0 hl.2;rw [b8,a8,recsB_cons]
        simp only [Int.toNat_natCast]
        rw [hbo,show 24+up8 m=b.length from hrl.symm,spl_spl oqz]
      exact .inr k2
    subst a1;exact ⟨5,s1,putF_e hst (by decide),.inr ⟨rfl,a2⟩⟩
attribute [local irreducible] crk crL crc Sl pt ro Dev imgS recS
theorem CloneBN_f {A:SP}{n c:Nat}:
    Fn Tryz.prog 191 #[.slice none n c] A (λ r B=>r= .slice none 0 0/\ A=B):=by
  refine fn_enterW func191 rfl ntmps191 (by simp) ?_;refine Zbl ?_;refine tv (o_eqs underlying32 rfl rfl) ?_;refine Zf1 ?_;intro h;refine Zdb ?_;exact ⟨_,_,res1 rfl rfl,λ _ _ h=>h,rfl,rfl⟩
theorem CloneBS_f {A:SP}{n c:Nat}{p:Addr}{xs:List Value}(hr:Rs A (some p) xs)(hl:xs.length=n*1)(ho:xs.all oneC=true)(hs:n<=5864062014800):
    Fn Tryz.prog 191 #[.slice (some p) n c] A (λ r B=>∃a2 c2,r= .slice a2 n c2/\ n<=c2/\ B=A*Sl 1 (.slice a2 n c2) n xs):=by
  refine fn_enterW func191 rfl ntmps191 (by simp) ?_;refine Zbl ?_;refine tv (o_eqs underlying32 rfl rfl) ?_;refine Zz ?_;intro h;refine Zcu ?_
  skip
  refine tc_reg ?_;refine tl_x rfl (o_buildSlice0 underlying32 sz5 rfl) ?_;rintro _ _ ⟨b5,rfl,rfl⟩;refine tl_pre (A':=A*Sl 1 (.slice (some ⟨b5,0,none⟩) 0 0) 0 []) (λ _ _ h=>sl_new h (Nat.le_refl _) (by simp) (by simp)) ?_;refine tlm ?_;refine tl_x rfl (o_apR underlying32 underlying32 sz5 by5 z5 rfl (by decide) (by decide) rfl rfl ctqz (hr.left) hl ho oqz (List.nil_append _)) ?_;rintro _ _ ⟨a7,c7,rfl,hc7,rfl⟩;refine Zf ?_;exact ⟨.slice a7 (0+n) c7,A*Sl 1 (.slice a7 (0+n) c7) (0+n) xs,res1 rfl rfl,λ _ _ h=>h,a7,c7,by rw [Nat.zero_add],by rw [Nat.zero_add] at hc7;exact hc7,by rw [Nat.zero_add]⟩
theorem CloneB_c {A:SP}{a:Option Addr}{n c:Nat}{l:List Nat}(hr:Rs A a (bys l):=by exact rbqz)(hm:l.length=n:=by first|assumption|rfl)(hs:n<=5864062014800:=by omega):
    Fn Tryz.prog 191 #[.slice a n c] A (λ r B=>∃a2 c2,r= .slice a2 n c2/\ n<=c2/\ B=A*Sl 1 (.slice a2 n c2) n (bys l)):=by
  have hl:(bys l).length=n*1:=(by rw [bys_length,hm,Nat.mul_one])
  cases a with
  |none=>
    intro g w hs2
    have hx:bys l=[]:=by
      rcases hr.rd hs2 with h|⟨b,o,e,_⟩
      . exact h
      cases e
    have hn:n=0:=(by rw [hx] at hl;simp at hl;omega);subst hn;rw [hx]
    refine (CloneBN_f (n:=0) (c:=c) g w hs2).mono ?_;rintro e w' ⟨v,B,rfl,⟨rfl,rfl⟩,hB⟩;exact ⟨_,_,rfl,⟨none,0,rfl,Nat.le_refl _,rfl⟩,sl_nil hB⟩
  |some p=>exact CloneBS_f hr hl (bys_all l) hs
theorem EqualB_c {A:SP}{a1 a2:Option Addr}{c1 c2 n m:Nat}{xs ys:List Nat}(h1:Rs A a1 (bys xs):=by exact rbqz)(h2:Rs A a2 (bys ys):=by exact rbqz)(hx:xs.length=n:=by first|assumption|rfl)(hy:ys.length=m:=by first|assumption|rfl)(hn:n<=4611686018427387904:=by omega):
    Fn Tryz.prog 192 #[.slice a1 n c1,.slice a2 m c2] A (λ r B=>r= .bool (decide (xs=ys))/\ A=B):=by
  refine fn_enterW func192 rfl ntmps192 (by simp) ?_;refine Zbl ?_;refine Zcp ?_;refine tv (o_len underlying32 rfl) ?_;refine Zk ?_;refine tc_cond rfl (sbq ?_) (λ h=> ?_)
  . intro h;refine Zdb ?_;have e:decide (xs=ys)=false:=decide_eq_false λ e=>by subst e;first|omega|(simp at h;omega)
    rw [e]
    exact ⟨.bool false,A,res1 rfl rfl,Dr.sat drqz,rfl,rfl⟩
  obtain rfl:n=m:=by first|omega|(simp at h;omega)
  refine Zcd ?_;refine Zcp ?_;refine Zbh ?_;refine tc_loop (λ kk ρ BB=>∃ (i:Nat),(i<=n)/\ (xs.take i=ys.take i)/\ kk=n-i/\ ρ 13=(vn i)/\ ρ 0= .slice a1 n c1/\ ρ 1= .slice a2 n c2/\ ρ 12=(vn n)/\ BB=A) (m:=n-(0)) ?_ ?_
  . exact ⟨0,by omega,rfl,rfl,rfl,rfl,rfl,rfl,rfl⟩
  intro k ρ B hI;obtain ⟨i,hp0,hp1,hkk1,hE13,hE0,hE1,hE12,hBA⟩:=hI;obtain rfl:=hBA.symm;refine te 13 hE13 ?_;refine te 0 hE0 ?_;refine te 1 hE1 ?_;refine te 12 hE12 ?_;refine Zcf ?_;refine tc_cond rfl (λ h=> ?_) (sbq ?_)
  . have hi:i<xs.length:=(by first|omega|(simp at h;omega));have hi2:i<ys.length:=(by omega);refine Zd1 ?_;refine Zc1 ?_;refine tc_regq mo kqz ?_;refine Zbk ?_;refine ql_v rfl (o_ixP1 underlying32 sz5 rfl rfl oqz (nn_rs h1 (by rw [bys_length];omega))) ?_;refine ql_v rfl (o_ldP p5 rfl h1 (bys_at hi)) ?_;refine Zbk ?_;refine ql_v rfl (o_ixP1 underlying32 sz5 rfl rfl oqz (nn_rs h2 (by rw [bys_length];omega))) ?_;refine ql_v rfl (o_ldP p5 rfl h2 (bys_at hi2)) ?_;refine ql_v rfl (o_nei rfl rfl) ?_;refine Zg9 ?_;refine tc_cond rfl (λ h=> ?_) (λ h=> ?_)
    . have hne:xs[i]≠ys[i]:=λ e=>by rw [e] at h;simp at h
      refine sr ?_;refine Zce ?_;have e:decide (xs=ys)=false:=decide_eq_false λ e=>by subst e;exact hne rfl
      rw [e]
      exact ⟨.bool false,A,res1 rfl rfl,Dr.sat drqz,rfl,rfl⟩
    have heq:((xs[i]:Nat):Int)=((ys[i]:Nat):Int):=(by first|omega|(simpa using h));refine Zd7 ?_;refine Zco ?_;exact ⟨_,by omega,i+1,by omega,take_succ_eq hp1 oqz oqz oqz,rfl,rfl,rfl,rfl,rfl,rfl⟩
  intro h;refine Zg ?_;refine Zdn ?_;have e:decide (xs=ys)=true:=decide_eq_true (take_all hp1 oqz oqz);rw [e]
  exact ⟨.bool true,A,res1 rfl rfl,Dr.sat drqz,rfl,rfl⟩
theorem field_c {A:SP}{a:Option Addr}{c m p w:Nat}{xs:List Nat}(q:Nat)(hq:q=p+w*8:=by omega)(hr:Rs A a (bys xs):=by exact rbqz)(hm:xs.length=m:=by first|assumption|rfl)(hb:∀x∈xs,x<256:=by assumption)(h8:q+8<=m:=by omega)(hl:m<=1099511627776:=by omega):
    Fn Tryz.prog 190 #[.slice a m c,vn p,vn w] A (λ r B=>r= .int .u64 ((nm ((xs.drop q).take 8):Nat):Int)/\ A=B):=by
  refine fn_enterW func190 rfl ntmps190 (by simp) ?_;subst hq;refine Zds ?_;refine Zdv ?_;refine tl_env (d:=13) (v:=(vn (w*8))) (by first|rfl|(show Value.int .i64 (IntKind.i64.wrap ((w*8:Nat):Int))=_;rw [wr_i64 oqz])) ?_;refine tv adqz ?_;refine tl_env (d:=14) (v:=(vn (p+w*8))) (by first|rfl|(show Value.int .i64 _=_;congr 1;omega)) ?_;refine tl_c rfl (o_call bd111 rfl (Take64_c (p:=p+w*8) (xs:=xs))) ?_;rintro _ _ ⟨rfl,rfl⟩;refine Ze7 ?_;refine Zf ?_;exact ⟨_,A,res1 rfl rfl,Dr.sat drqz,rfl,rfl⟩
def rdW (o:Option ((Nat×List Nat)×Nat)):Nat:=match o with|none=>0|some x=>x.1.1
def rdO (o:Option ((Nat×List Nat)×Nat)):List Nat:=match o with|none=>[]|some x=>x.1.2
def rkT (o:Option ((Nat×List Nat)×Nat)):Nat:=match o with|none=>0|some x=>x.2
theorem read_short {n at_ sz p:Nat}{room:List Nat}(h:room.length<p+24):readS n at_ sz room p=none:=by unfold readS;rw [if_pos h]
theorem read_may {n at_ sz p:Nat}{room:List Nat}(h:mayX n at_ sz ((nm ((room.drop p).take 8):Nat),(nm ((room.drop (p+8)).take 8):Nat))=false):readS n at_ sz room p=none:=by
  unfold readS
  by_cases h0:room.length<p+24
  . rw [if_pos h0]
  rw [if_neg h0,if_pos h]
theorem read_need {n at_ sz p:Nat}{room:List Nat}(h:room.length<p+(24+up8 (nm ((room.drop (p+8)).take 8)))):readS n at_ sz room p=none:=by
  unfold readS
  by_cases h0:room.length<p+24
  . rw [if_pos h0]
  rw [if_neg h0]
  by_cases h1:mayX n at_ sz ((nm ((room.drop p).take 8):Nat),(nm ((room.drop (p+8)).take 8):Nat))=false
  . rw [if_pos h1]
  rw [if_neg h1,if_pos h]
theorem read_bad {n at_ sz p w m:Nat}{room:List Nat}(hw:nm ((room.drop p).take 8)=w)(hm:nm ((room.drop (p+8)).take 8)=m)(h:recS w ((room.drop (p+24)).take m)≠(room.drop p).take (24+up8 m)):readS n at_ sz room p=none:=by
  subst hw hm;unfold readS
  by_cases h0:room.length<p+24
  . rw [if_pos h0]
  rw [if_neg h0]
  by_cases h1:mayX n at_ sz ((nm ((room.drop p).take 8):Nat),(nm ((room.drop (p+8)).take 8):Nat))=false
  . rw [if_pos h1]
  rw [if_neg h1]
  by_cases h2:room.length<p+(24+up8 (nm ((room.drop (p+8)).take 8)))
  . rw [if_pos h2]
  rw [if_neg h2,if_pos h]
theorem read_good {n at_ sz p w m:Nat}{room:List Nat}(hw:nm ((room.drop p).take 8)=w)(hm:nm ((room.drop (p+8)).take 8)=m)(h1:¬room.length<p+24)(h2:mayX n at_ sz ((w:Int),(m:Int))=true)(h3:¬room.length<p+(24+up8 m))(h:recS w ((room.drop (p+24)).take m)=(room.drop p).take (24+up8 m)):readS n at_ sz room p=some ((w,(room.drop (p+24)).take m),24+up8 m):=by
  subst hw hm;unfold readS;rw [if_neg h1,if_neg (by rw [h2];decide),if_neg h3,if_neg (by rw [h];simp)]
theorem may_big {n at_ sz w m:Nat}(hn:n<=4194304)(h:4194304<w∨4194304<m):mayX n at_ sz ((w:Int),(m:Int))=false:=decide_eq_false (by show¬((1:Int)<=(m:Int)/\ (64:Int)<=(w:Int)/\ (w:Int)+(m:Int)<=(n:Int)/\ _);omega)
theorem may_zero1 {n at_ sz w m:Nat}(h:m<1):mayX n at_ sz ((w:Int),(m:Int))=false:=decide_eq_false (by show¬((1:Int)<=(m:Int)/\ (64:Int)<=(w:Int)/\ (w:Int)+(m:Int)<=(n:Int)/\ _);omega)
theorem need_one {m:Nat}(h:1<=m)(h2:m<=4194304):needS [(m:Int)]=(((24+up8 m:Nat):Int),0):=by
  have:=up8_le m
  unfold needS
  rw [needF_cons h]
  have e:rndS m=(((up8 m:Nat):Int),0):=(by unfold rndS;have:pad8 m<8:=(by unfold pad8;omega);rw [if_neg oqz]);rw [e,if_neg (by simp only [ne_eq,not_true,false_or];omega)]
  show ((0:Int)+24+((up8 m:Nat):Int),(0:Int))=_
  congr 1
theorem need_zero:needS [((0:Nat):Int)]=(0,2):=needF_bad (by decide)
theorem Zbs {p r:Prop}(k:r)(h:Kq r->p:=by intro k;refine tv (o_bS (l:=[_,_]) pv_nil underlying210 z210 (pl210 underlying210) rfl) ?_;refine tl_u rfl (o_stUN rfl upqz sz210 rfl rfl rfl (by first|decide|simp|omega) rfl) ?_;exact k.o):p:=h ⟨k⟩
theorem Zc2 {p r:Prop}(k:r)(h:Kq r->p:=by intro k;refine tv (o_pick_t rfl wqz) ?_;refine tl_nil ?_;exact k.o):p:=h ⟨k⟩
theorem read_c {A R:SP}{C:SP->SP}{d:Nat}{s:DevS}(hc:Ct A (Dev d s) R C:=by exact cbqz){bl at_ sz:Nat}(hl:Has R bl (cl (lcs11 d at_ sz) 183):=by exact hbqz)(hlw:LogW (s.ls.length*64) at_ sz:=by assumption){a:Option Addr}{c rm p:Nat}{room:List Nat}(hr:Rs R a (bys room):=by exact rbqz)(hm:room.length=rm:=by first|assumption|rfl)(hmc:rm<=c:=by omega)(hb:∀x∈room,x<256:=by assumption)(hrm:rm<=4194304:=by omega)(hp:p<=rm:=by omega):
    Fn Tryz.prog 167 #[pz bl,.slice a rm c,vn p] A (λ r B=>∃a2 c2,r= .tuple #[.agg #[.int .i64 ((rdW (readS (s.ls.length*64) at_ sz room p):Nat):Int),.slice a2 (rdO (readS (s.ls.length*64) at_ sz room p)).length c2],.int .i64 ((rkT (readS (s.ls.length*64) at_ sz room p):Nat):Int),.bool (readS (s.ls.length*64) at_ sz room p).isSome]/\ (rdO (readS (s.ls.length*64) at_ sz room p)).length<=c2/\ B=C (Dev d s)*Sl 1 (.slice a2 (rdO (readS (s.ls.length*64) at_ sz room p)).length c2) (rdO (readS (s.ls.length*64) at_ sz room p)).length (bys (rdO (readS (s.ls.length*64) at_ sz room p)))):=by
  refine fn_enterW func167 rfl ntmps167 (by simp) ?_;refine tc_have (λ _ _ h=>ct_wf2 hc h) λ hw=> ?_
  have htop:=hw.top;have hpos:=hw.pos;obtain ⟨rfl,hC⟩:=hc;rw [hC]
  have hlw9:=hlw;obtain ⟨w1,w2,w3,w4,w5⟩:=hlw9;obtain ⟨w,hwq⟩:∃w,(nm ((room.drop p).take 8))=w:=⟨_,rfl⟩;obtain ⟨m,hmq⟩:∃m,(nm ((room.drop (p+8)).take 8))=m:=⟨_,rfl⟩;have hw8:w<18446744073709551616:=hwq▸nm8_lt λ x hx=>hb x (List.mem_of_mem_drop hx)
  have hm8:m<18446744073709551616:=hmq▸nm8_lt λ x hx=>hb x (List.mem_of_mem_drop hx)
  refine sr ?_;refine tl_x rfl (o_alloc z210 rfl) ?_;rintro _ _ ⟨b6,rfl,rfl⟩;refine Zbm ?_;refine Zcp ?_;refine tv (o_subI rfl rfl oqz) ?_;refine Zq ?_;refine tc_cond rfl (λ h=> ?_) (λ h=> ?_)
  . have hsh:room.length<p+24:=(by first|omega|(simp at h;omega));refine sr ?_;refine Zbs ?_;refine Zdf ?_;have e0:(readS (s.ls.length*64) at_ sz room p)=none:=(by exact read_short hsh);rw [e0]
    exact ⟨.tuple #[.agg #[.int .i64 0,.slice none 0 0],.int .i64 0,.bool false],R*Dev d s*Sl 1 (.slice none 0 0) 0 [],resA3 rfl (rv_cell a210 sz210 rfl hsqz (by show 2<=2;decide) rfl) (rv_tmp rfl) (rv_tmp rfl),λ _ _ h=>sl_nil (Dr.sat drqz _ _ h),none,0,rfl,Nat.le_refl _,rfl⟩
  have hsh:¬room.length<p+24:=(by first|omega|(simp at h;omega));refine Zgr ?_;refine tl_c rfl (o_call bd190 rfl (field_c (q:=p) (w:=0) (xs:=room))) ?_;rintro _ _ ⟨rfl,rfl⟩;refine tl_env (d:=23) (v:= .int .u64 (w:Nat)) (by show Value.int .u64 (((nm ((room.drop p).take 8)):Nat):Int)=_;rw [hwq]) ?_;refine Zbc ?_;refine tl_c rfl (o_call bd190 rfl (field_c (q:=p+8) (w:=1) (xs:=room))) ?_;rintro _ _ ⟨rfl,rfl⟩;refine tl_env (d:=26) (v:= .int .u64 (m:Nat)) (by show Value.int .u64 (((nm ((room.drop (p+8)).take 8)):Nat):Int)=_;rw [hmq]) ?_;refine tla ?_;refine Zgp ?_;refine tc_cut (λ ρ BB=>∃ (bb:Bool),(bb=decide (4194304<w∨4194304<m))/\ ρ 32= .bool bb/\ ρ 0=(pz bl)/\ ρ 1= .slice a rm c/\ ρ 2=(vn p)/\ ρ 6=(pz b6)/\ ρ 9= .int .u64 (w:Nat)/\ ρ 10= .int .u64 (m:Nat)/\ BB=R*Dev d s*pt b6 (cl [.int .i64 0,.slice none 0 0] 210)) ?_ ?_
  . skip
    refine Zw ?_;refine tv (o_gtr rfl rfl) ?_;refine tlm ?_;refine tl_bool (d:=29) rfl (λ h=> ?_) (λ h=> ?_)
    . have g29:(4194304<w):=(by first|exact of_decide_eq_true h|(have h2:=h;simp at h2;omega)|simpa using h);refine Zo ?_;refine Zc2 ?_;exact ⟨_,by first|exact (decide_eq_true oqz).symm|exact (decide_eq_false oqz).symm|(rw [decide_eq_decide];omega),rfl,rfl,rfl,rfl,rfl,rfl,rfl,rfl⟩
    have g29:¬(4194304<w):=(by first|exact of_decide_eq_false h|(have h2:=h;simp at h2;omega)|simpa using h);refine tlm ?_;refine Zb5 ?_;refine tl_nil ?_;exact ⟨_,by first|exact (decide_eq_true oqz).symm|exact (decide_eq_false oqz).symm|(rw [decide_eq_decide];omega),rfl,rfl,rfl,rfl,rfl,rfl,rfl,rfl⟩
  intro ρ B hI;obtain ⟨bb,hbb0,hE32,hE0,hE1,hE2,hE6,hE9,hE10,rfl⟩:=hI;refine q_then_n ?_;refine te 32 hE32 ?_;refine te 0 hE0 ?_;refine te 1 hE1 ?_;refine te 2 hE2 ?_;refine te 6 hE6 ?_;refine te 9 hE9 ?_;refine te 10 hE10 ?_;refine tc_cond rfl (λ h=> ?_) (λ h=> ?_)
  . have hbig:=of_decide_eq_true (show decide (4194304<w∨4194304<m)=true by rw [←hbb0];exact h);refine sr ?_;refine Zbs ?_;refine Zdf ?_;have e0:(readS (s.ls.length*64) at_ sz room p)=none:=(by exact read_may (by rw [hwq,hmq];exact may_big oqz hbig));rw [e0]
    exact ⟨.tuple #[.agg #[.int .i64 0,.slice none 0 0],.int .i64 0,.bool false],R*Dev d s*Sl 1 (.slice none 0 0) 0 [],resA3 rfl (rv_cell a210 sz210 rfl hsqz (by show 2<=2;decide) rfl) (rv_tmp rfl) (rv_tmp rfl),λ _ _ h=>sl_nil (Dr.sat drqz _ _ h),none,0,rfl,Nat.le_refl _,rfl⟩
  have hbig:=of_decide_eq_false (show decide (4194304<w∨4194304<m)=false by rw [←hbb0];exact h);refine Zbq ?_;refine tv (o_conv underlying36 underlying3 rfl) ?_;refine tl_env (d:=35) (v:=(vn w)) (by show Value.int .i64 (IntKind.i64.wrap _)=_;rw [wr_i64 oqz]) ?_;refine tlm ?_;refine tv (o_conv underlying36 underlying3 rfl) ?_;refine tl_env (d:=37) (v:=(vn m)) (by show Value.int .i64 (IntKind.i64.wrap _)=_;rw [wr_i64 oqz]) ?_;refine tv (o_bS (l:=[_,_]) (pv_cons wqz (pv_cons wqz pv_nil)) underlying195 z195 (pl195 underlying195) rfl) ?_;refine tl_x rfl (o_alloc z195 rfl) ?_;rintro _ _ ⟨b11,rfl,rfl⟩;refine tl_u rfl (o_stUN (l':=xcs ((w:Int),(m:Int))) rfl upqz sz195 rfl rfl rfl (by show 2<=2;decide) rfl) ?_;refine Zeq ?_;obtain ⟨nd,en,hnd⟩:∃nd en,needS [(m:Int)]=(nd,en):=⟨_,_,rfl⟩;refine tc_reg ?_;refine Zbn ?_;refine tl_x rfl (o_buildSlice1 underlying22 sz3 z3 wqz rfl) ?_;rintro _ _ ⟨b42,rfl,rfl⟩;refine tl_c rfl (o_call bd161 rfl (Need_c (xs:=[(m:Int)]) (hr:=show Rs _ _ [Value.int .i64 (m:Int)] from rs_pt rfl) (hx:=by intro x hx;simp at hx;omega))) ?_;refine Zgx ?_;refine tv (o_extract rfl rfl) ?_;refine tl_env (d:=44) (v:= .int .i64 nd) (by show Value.int .i64 (needS [(m:Int)]).1=_;rw [hnd]) ?_;refine tv (o_extract rfl rfl) ?_;refine tl_env (d:=45) (v:= .int .i64 en) (by show Value.int .i64 (needS [(m:Int)]).2=_;rw [hnd]) ?_;refine tla ?_;refine Zgp ?_;refine tc_cut (λ ρ BB=>∃ (bb:Bool),(bb=decide (mayX (s.ls.length*64) at_ sz ((w:Int),(m:Int))=false∨room.length<p+(24+up8 m)))/\ ρ 61= .bool bb/\ ρ 1= .slice a rm c/\ ρ 2=(vn p)/\ ρ 6=(pz b6)/\ ρ 11=(pz b11)/\ ρ 12= .int .i64 nd/\ Dr BB (R*Dev d s*pt b6 (cl [.int .i64 0,.slice none 0 0] 210)*pt b11 (cl (xcs ((w:Int),(m:Int))) 195))) ?_ ?_
  . skip
    refine Zw ?_;refine Zc9 ?_;refine tl_bool (d:=48) rfl (λ h=> ?_) (λ h=> ?_)
    . have hen:en≠0:=(by first|exact of_decide_eq_true h|simpa using h);have hm0:m<1:=(by rcases Nat.lt_or_ge m 1 with h9|h9;exact h9;rw [need_one h9 oqz] at hnd;simp at hnd;omega);have hmy0:=may_zero1 (n:=s.ls.length*64) (at_:=at_) (sz:=sz) (w:=w) hm0;refine Zb3 ?_;refine Zca ?_;refine Zfg ?_;refine Zc2 ?_;exact ⟨_,by first|exact (decide_eq_true (.inl (by assumption))).symm|(rw [decide_eq_decide];simp only [hmy1,Bool.true_eq_false,false_or];omega),rfl,rfl,rfl,rfl,rfl,rfl,drqz⟩
    have hen:en=0:=(by first|(have h9:=of_decide_eq_false h;omega)|(simp at h;omega));have hm1:1<=m:=(by rcases Nat.lt_or_ge m 1 with h9|h9;have h8:m=0:=(by omega);subst h8;rw [need_zero] at hnd;simp at hnd;omega;exact h9);have hnd1:nd=((24+up8 m:Nat):Int):=(by rw [need_one hm1 oqz] at hnd;simp only [Prod.mk.injEq] at hnd;exact hnd.1.symm);have hxw:XW ((w:Int),(m:Int)):=⟨by show-9223372036854775808<=(w:Int)/\ (w:Int)<=9223372036854775807;omega,by show-9223372036854775808<=(m:Int)/\ (m:Int)<=9223372036854775807;omega⟩;refine tlm ?_;refine tv (o_loadN (vs:=xcs ((w:Int),(m:Int))) a195 sz195 rfl hsqz (by show 2<=2;decide) rfl) ?_;refine tl_c rfl (o_call bd160 rfl (may11_c (s:=s) (x:=((w:Int),(m:Int))) (hl:=by repeat (first|assumption|apply has_left)))) ?_;refine Zbf ?_;refine Zbb ?_;refine tl_bool (d:=54) rfl (λ h=> ?_) (λ h=> ?_)
    . have hmy:mayX (s.ls.length*64) at_ sz ((w:Int),(m:Int))=false:=(by first|assumption|simpa using h);refine Zfg ?_;refine Zc2 ?_;exact ⟨_,by first|exact (decide_eq_true (.inl (by assumption))).symm|(rw [decide_eq_decide];simp only [hmy1,Bool.true_eq_false,false_or];omega),rfl,rfl,rfl,rfl,rfl,rfl,drqz⟩
    have hmy1:mayX (s.ls.length*64) at_ sz ((w:Int),(m:Int))=true:=(by simpa using h);refine Zbc ?_;refine Zcp ?_;refine Zfs ?_;refine tl_nil ?_;exact ⟨_,by first|exact (decide_eq_true (.inl (by assumption))).symm|(rw [decide_eq_decide];simp only [hmy1,Bool.true_eq_false,false_or];omega),rfl,rfl,rfl,rfl,rfl,rfl,drqz⟩
  intro ρ B hI;obtain ⟨bb,hbc0,hE61,hE1,hE2,hE6,hE11,hE12,hBA⟩:=hI;refine q_then_n ?_;refine tc_pre hBA.sat ?_;clear hBA;refine te 61 hE61 ?_;refine te 1 hE1 ?_;refine te 2 hE2 ?_;refine te 6 hE6 ?_;refine te 11 hE11 ?_;refine te 12 hE12 ?_;refine tc_cond rfl (λ h=> ?_) (λ h=> ?_)
  . have hor:=of_decide_eq_true (show decide (mayX (s.ls.length*64) at_ sz ((w:Int),(m:Int))=false∨room.length<p+(24+up8 m))=true by rw [←hbc0];exact h);refine sr ?_;refine Zbs ?_;refine Zdf ?_;have e0:(readS (s.ls.length*64) at_ sz room p)=none:=(by rcases hor with h9|h9;exact read_may (by rw [hwq,hmq];exact h9);exact read_need (by rw [hmq];exact h9));rw [e0]
    exact ⟨.tuple #[.agg #[.int .i64 0,.slice none 0 0],.int .i64 0,.bool false],R*Dev d s*Sl 1 (.slice none 0 0) 0 [],resA3 rfl (rv_cell a210 sz210 rfl hsqz (by show 2<=2;decide) rfl) (rv_tmp rfl) (rv_tmp rfl),λ _ _ h=>sl_nil (Dr.sat drqz _ _ h),none,0,rfl,Nat.le_refl _,rfl⟩
  have hor:=of_decide_eq_false (show decide (mayX (s.ls.length*64) at_ sz ((w:Int),(m:Int))=false∨room.length<p+(24+up8 m))=false by rw [←hbc0];exact h);have hmy:mayX (s.ls.length*64) at_ sz ((w:Int),(m:Int))=true:=(by rcases hb9:mayX (s.ls.length*64) at_ sz ((w:Int),(m:Int)) with _|_;exact absurd (.inl hb9) hor;rfl);have hnr:¬room.length<p+(24+up8 m):=λ h9=>hor (.inr h9)
  have hm1:1<=m:=(by rcases Nat.lt_or_ge m 1 with h9|h9;rw [may_zero1 h9] at hmy;exact absurd hmy (by decide);exact h9);have hup:=up8_le m;rw [need_one hm1 oqz] at hnd
  obtain ⟨rfl,rfl⟩:((24+up8 m:Nat):Int)=nd/\ (0:Int)=en:=by simpa using hnd
  obtain ⟨old,hold⟩:∃old,((room.drop (p+24)).take m)=old:=⟨_,rfl⟩;have holl:old.length=m:=(by rw [←hold,List.length_take,List.length_drop];omega);have hob:∀x∈old,x<256:=λ x hx=>hb x (List.mem_of_mem_drop (List.mem_of_mem_take (hold.symm▸hx)))
  refine Zbq ?_;refine Zbz ?_;refine tl_env (d:=65) (v:=(vn (p+24))) (by first|rfl|(show Value.int .i64 _=_;congr 1;omega)) ?_;refine Zbz ?_;refine tl_env (d:=67) (v:=(vn (p+24))) (by first|rfl|(show Value.int .i64 _=_;congr 1;omega)) ?_;refine Zbn ?_;refine tv adqz ?_;refine tl_env (d:=70) (v:=(vn (p+24+m))) (by first|rfl|(show Value.int .i64 _=_;congr 1;omega)) ?_;refine tv (o_slice (l:=p+24) (h:=p+24+m) underlying32 sz5 rfl (bnd_nat rfl) (bnd_nat rfl) oqz oqz) ?_;refine tl_env (d:=71) (v:= .slice (cutAddr a c (p+24) 1) m (c-(p+24))) (by show Value.slice (cutAddr a c (p+24) 1) (p+24+m-(p+24)) (c-(p+24))=_;rw [show p+24+m-(p+24)=m by omega]) ?_;refine tl_c rfl (o_call bd191 rfl (CloneB_c (l:=old) (n:=m) (hr:=by rw [←hold];exact (rs_mid (l:=p+24) (m:=m) hr oqz).left.left.left))) ?_;rintro _ _ ⟨a72,c72,rfl,hc72,rfl⟩;refine Zgp ?_;refine tc_regh (S:=R*Dev d s*pt b6 (cl [.int .i64 0,.slice none 0 0] 210)*pt b11 (cl (xcs ((w:Int),(m:Int))) 195)*Sl 1 (.slice a72 m c72) m (bys old)) mo drqz ?_
  show TH _ _ _ _ _ 12 (Array.replicate 12 false) _ _
  refine tm 0 rfl kqz rfl (o_fieldAddr (o:=0) underlying195 rfl rfl sz3 rfl) ?_;refine tm 1 rfl kqz rfl (by first|exact o_load p3 rfl hsqz rfl|exact o_loadC p3 rfl (by assumption)) ?_;refine tm 2 rfl kqz rfl (o_move wqz) ?_;refine tm 4 rfl kqz rfl (o_move wqz) ?_;refine tm 5 rfl kqz rfl (o_move wqz) ?_;refine tm 6 rfl kqz rfl (o_move wqz) ?_;refine tm 7 rfl kqz rfl (o_move wqz) ?_;refine tm 8 rfl kqz rfl adqz ?_;refine th_env (d:=81) (v:= .int .i64 ((p+(24+up8 m):Nat):Int)) (by first|rfl|(show Value.int .i64 _=_;congr 1;omega)) ?_;refine tm 9 rfl kqz rfl (o_slice (l:=p) (h:=p+(24+up8 m)) underlying32 sz5 rfl (bnd_nat rfl) (bnd_nat rfl) oqz oqz) ?_;refine th_env (d:=82) (v:= .slice (cutAddr a c p 1) (24+up8 m) (c-p)) (by show Value.slice (cutAddr a c p 1) (p+(24+up8 m)-p) (c-p)=_;rw [show p+(24+up8 m)-p=24+up8 m by omega]) ?_;refine th_one (i:=3) kqz ?_;refine oh_c rfl rfl rfl (o_call bd162 rfl (record_c (p:=w) (m:=m) (xs:=old) (hm:=holl))) ?_;rintro _ _ ⟨a76,c76,rfl,hc76,rfl⟩;refine ⟨by repeat (first|with_reducible exact dr_refl|apply dr_keep|apply dr_drop), ?_⟩;refine th_one (i:=10) kqz ?_;refine oh_c rfl rfl rfl (o_call bd192 rfl (EqualB_c (xs:=recS w old) (ys:=(room.drop p).take (24+up8 m)) (hx:=by rw [recS_len,holl]) (hy:=by rw [List.length_take,List.length_drop];omega) (h2:=(rs_mid (l:=p) (m:=24+up8 m) hr oqz).left.left.left.left.left))) ?_;refine Z1 ?_;refine tm 11 rfl kqz rfl (o_not rfl) ?_;refine Zby ?_;refine tc_cond rfl (λ h=> ?_) (λ h=> ?_)
  . have hne:recS w old≠(room.drop p).take (24+up8 m):=λ e=>by rw [e] at h;simp at h
    refine sr ?_;refine Zbs ?_;refine Zdf ?_;have e0:(readS (s.ls.length*64) at_ sz room p)=none:=(by exact read_bad hwq hmq (by rw [hold];exact hne));rw [e0]
    exact ⟨.tuple #[.agg #[.int .i64 0,.slice none 0 0],.int .i64 0,.bool false],R*Dev d s*Sl 1 (.slice none 0 0) 0 [],resA3 rfl (rv_cell a210 sz210 rfl hsqz (by show 2<=2;decide) rfl) (rv_tmp rfl) (rv_tmp rfl),λ _ _ h=>sl_nil (Dr.sat drqz _ _ h),none,0,rfl,Nat.le_refl _,rfl⟩
  have heq:recS w old=(room.drop p).take (24+up8 m):=(by simpa using h);refine Zc ?_;refine sr ?_;refine Zbo ?_;refine tlm ?_;refine tv (o_bS (l:=[_,_]) (pv_cons wqz (pv_cons wqz pv_nil)) underlying210 z210 (pl210 underlying210) rfl) ?_;refine tlm ?_;refine tl_u rfl (o_stUN (l':=[.int .i64 (w:Int),.slice a72 m c72]) rfl upqz sz210 rfl rfl rfl (by show 2<=2;decide) rfl) ?_;refine Zdd ?_;have e0:(readS (s.ls.length*64) at_ sz room p)=some ((w,old),24+up8 m):=(by rw [←hold];exact read_good hwq hmq hsh hmy hnr (by rw [hold];exact heq));rw [e0]
  exact ⟨.tuple #[.agg #[.int .i64 (w:Int),.slice a72 m c72],vn (24+up8 m),.bool true],R*Dev d s*Sl 1 (.slice a72 m c72) m (bys old),resA3 rfl (rv_cell a210 sz210 rfl hsqz (by show 2<=2;decide) rfl) (rv_tmp rfl) (rv_tmp rfl),Dr.sat drqz,a72,c72,by show _=Value.tuple #[.agg #[.int .i64 (w:Int),.slice a72 old.length c72],_,_];rw [holl];rfl,by show old.length<=c72;rw [holl];exact hc72,by show _=R*Dev d s*Sl 1 (.slice a72 old.length c72) old.length (bys old);rw [holl]⟩
end Go.Vl

namespace Go.Vl
open Go Go.Proofs Go.Proofs.Tryz
def kcl:List (Nat×List Nat)->List Value->List Value
  |x::l,v::vs=>(vn x.1)::v::kcl l vs
  |_,_=>[]
theorem kcl_len:∀{l:List (Nat×List Nat)} {vs:List Value},vs.length=l.length->(kcl l vs).length=l.length*2
  |[],[],_=>rfl
  |x::l,v::vs,h=>by
    show (kcl l vs).length+1+1=_
    rw [kcl_len (by simpa using h),List.length_cons];omega
theorem kcl_snoc:∀{l:List (Nat×List Nat)} {vs:List Value} {x:Nat×List Nat} {v:Value},vs.length=l.length->kcl (l++[x]) (vs++[v])=kcl l vs++[vn x.1,v]
  |[],[],_,_,_=>rfl
  |y::l,u::vs,x,v,h=>by
    show _::u::kcl (l++[x]) (vs++[v])=_
    rw [kcl_snoc (by simpa using h)];rfl
theorem wr_u64 {j:Nat}(h:j<18446744073709551616):IntKind.u64.wrap (j:Int)=(j:Int):=by simp [IntKind.wrap,IntKind.bits,IntKind.signed];omega
theorem rd_some {o:Option ((Nat×List Nat)×Nat)}(h:o.isSome=true):o=some ((rdW o,rdO o),rkT o):=by
  cases o with
  |none=>cases h
  |some x=>rfl
def cat (D:List (Nat×List Nat))(x:List (Nat×List Nat)×Int):List (Nat×List Nat)×Int:=if x.2≠0 then ([],110) else (D++x.1,0)
theorem recs_none {n at_ sz k p:Nat}{room:List Nat}{D:List (Nat×List Nat)}(h:readS n at_ sz room p=none)(hk:0<k):cat D (recsF n at_ sz room k p)=([],110):=by
  obtain ⟨k,rfl⟩:∃j,k=j+1:=⟨k-1,by omega⟩
  unfold recsF;rw [h];rfl
theorem recs_some {n at_ sz k p:Nat}{room:List Nat}{D:List (Nat×List Nat)}{x:Nat×List Nat}{t:Nat}(h:readS n at_ sz room p=some (x,t))(hk:0<k):cat D (recsF n at_ sz room k p)=cat (D++[x]) (recsF n at_ sz room (k-1) (p+t)):=by
  obtain ⟨k,rfl⟩:∃j,k=j+1:=⟨k-1,by omega⟩;rw [show k+1-1=k by omega]
  have e:recsF n at_ sz room (k+1) p=if (recsF n at_ sz room k (p+t)).2≠0 then ([],110) else (x::(recsF n at_ sz room k (p+t)).1,0):=by
    rw [show recsF n at_ sz room (k+1) p=match readS n at_ sz room p with
      |none=>([],110)
      |some (x,t)=>if (recsF n at_ sz room k (p+t)).2≠0 then ([],110) else (x::(recsF n at_ sz room k (p+t)).1,0) from rfl,h]
  rw [e]
  unfold cat
  by_cases h2:(recsF n at_ sz room k (p+t)).2≠0
  . rw [if_pos h2,if_pos h2,if_pos (by decide)]
  rw [if_neg h2,if_neg h2,if_neg (by simp),List.append_assoc];rfl
theorem recs_err {n at_ sz:Nat}{room:List Nat}:∀{k p:Nat},(recsF n at_ sz room k p).2≠0->recsF n at_ sz room k p=([],110)
  |0,p,h=>absurd rfl h
  |k+1,p,h=>by
    have e:recsF n at_ sz room (k+1) p=match readS n at_ sz room p with
      |none=>([],110)
      |some (x,t)=>if (recsF n at_ sz room k (p+t)).2≠0 then ([],110) else (x::(recsF n at_ sz room k (p+t)).1,0):=rfl
    rw [e] at h ⊢
    cases hr:readS n at_ sz room p with
    |none=>rfl
    |some y=>
      rw [hr] at h
      simp only at h ⊢
      by_cases h2:(recsF n at_ sz room k (p+y.2)).2≠0
      . rw [if_pos h2]
      rw [if_neg h2] at h;exact absurd rfl h
theorem cat_nil {n at_ sz k p:Nat}{room:List Nat}:cat [] (recsF n at_ sz room k p)=recsF n at_ sz room k p:=by
  unfold cat
  by_cases h:(recsF n at_ sz room k p).2≠0
  . rw [if_pos h,recs_err h]
  rw [if_neg h];exact Prod.ext rfl (by simp only;omega)
theorem read_room {n at_ sz p:Nat}{room:List Nat}{x:Nat×List Nat}{t:Nat}(h:readS n at_ sz room p=some (x,t)):p+t<=room.length/\ 24<=t:=by
  unfold readS at h
  split at h;cases h
  split at h;cases h
  split at h;cases h
  rename_i h3
  split at h;cases h
  simp only [Option.some.injEq,Prod.mk.injEq] at h
  omega
attribute [local irreducible] crk crL crc Sl pt ro Dev imgS recS readS recsF rdW rdO rkT Parts
theorem Records_c {A R:SP}{C:SP->SP}{d:Nat}{s:DevS}(hc:Ct A (Dev d s) R C:=by exact cbqz){bl at_ sz:Nat}(hl:Has R bl (cl (lcs11 d at_ sz) 183):=by exact hbqz)(hlw:LogW (s.ls.length*64) at_ sz:=by assumption):
    Fn Tryz.prog 138 #[pz bl] A (λ r B=>∃a2 c2 vs,r= .tuple #[.slice a2 (recordsS at_ sz s).1.length c2,.int .i64 (recordsS at_ sz s).2]/\ (recordsS at_ sz s).1.length<=c2/\ vs.length=(recordsS at_ sz s).1.length/\ B=C (Dev d s)*Parts vs ((recordsS at_ sz s).1.map (·.2))*Sl 2 (.slice a2 (recordsS at_ sz s).1.length c2) (recordsS at_ sz s).1.length (kcl (recordsS at_ sz s).1 vs)):=by
  refine fn_enterW func138 rfl ntmps138 (by simp) ?_;refine tc_have (λ _ _ h=>ct_wf2 hc h) λ hw=> ?_
  have htop:=hw.top;have hpos:=hw.pos;obtain ⟨rfl,hC⟩:=hc;have hAC:∀g w,sat g w (R*Dev d s)->sat g w (C (Dev d s)):=λ g w h=>by rw [hC];exact h
  have hlw9:=hlw;obtain ⟨w1,w2,w3,w4,w5⟩:=hlw9;refine Zc0 ?_;refine tl_c rfl (o_call bd158 rfl (ready11_c (s:=s) (hl:=hl))) ?_;refine Zd2 ?_;refine tc_cond rfl (sbq ?_) (λ h=> ?_)
  . intro h;refine Zfj ?_;have ho:=stE_off h;have es:stE s=5:=(by unfold stE;rw [if_pos ho]);rw [es]
    have e0:recordsS at_ sz s=([],5):=(by unfold recordsS;rw [if_pos ho]);rw [e0]
    exact ⟨.tuple #[.slice none 0 0,.int .i64 (5)],C (Dev d s)*Parts [] []*Sl 2 (.slice none 0 0) 0 [],res2 rfl rfl rfl,λ _ _ h=>sl_nil (show sat _ _ (C (Dev d s)*Parts [] []) by rw [hC,show Parts [] []=emp by unfold Parts;rfl,star_emp];exact Dr.sat (A':=R*Dev d s) drqz _ _ h),none,0,[],rfl,Nat.le_refl _,rfl,rfl⟩
  have ho:s.off=false:=stE_on (by simpa using h);have hw2:=word_in (p:=at_) ho oqz oqz;obtain ⟨v,hv⟩:∃v,(wordP (at_:Nat) s).1=v:=⟨_,rfl⟩;have hvl:v<18446744073709551616:=(by rw [←hv,hw2];exact nm8_lt λ x hx=>img_lt x (List.mem_of_mem_drop hx));obtain ⟨room,hroom⟩:∃room,roomS at_ sz s=room:=⟨_,rfl⟩;have hil:=imgS_len hw;have hrl:room.length=sz-64:=(by rw [←hroom];unfold roomS;rw [List.length_take,List.length_drop,hil];omega);have hrb:∀x∈room,x<256:=λ x hx=>by rw [←hroom] at hx;exact img_sub x hx
  have hrec:recordsS at_ sz s=recsF (s.ls.length*64) at_ sz room v 0:=(by unfold recordsS;rw [if_neg (by rw [ho];decide),hv,hroom]);refine Zcu ?_;refine tc_regq mo kqz ?_;refine Zcv ?_;refine Zg0 ?_;refine Zcv ?_;refine Zcw ?_;refine ql_c rfl (λ w=>exec_call bd159 rfl) (Word_c (s:=s) (p:=(at_:Nat))) ?_;refine ql_v rfl (o_move wqz) ?_;refine ql_v rfl (o_extract rfl rfl) ?_;refine ql_env (d:=28) (v:= .int .u64 (v:Nat)) (by show Value.int .u64 ((wordP (at_:Nat) s).1:Nat)=_;rw [hv]) ?_;refine ql_v rfl (o_extract rfl rfl) ?_;refine ql_env (d:=29) (v:= .int .i64 0) (by show Value.int .i64 (wordP (at_:Nat) s).2=_;rw [hw2]) ?_;refine ql_v rfl (o_assign wqz) ?_;refine Zf7 ?_;refine Ze ?_;refine Z3 ?_;intro h;refine Zcd ?_;refine Zdq ?_;refine tc_cond rfl (λ h=> ?_) (λ h=> ?_)
  . have hv0:v=0:=(by first|(have h9:=of_decide_eq_true h;omega)|(simp at h;omega));refine sr ?_;refine Zdf ?_;have e0:recordsS at_ sz s=([],0):=(by rw [hrec,hv0];unfold recsF;rfl);rw [e0]
    exact ⟨.tuple #[.slice none 0 0,.int .i64 (0)],C (Dev d s)*Parts [] []*Sl 2 (.slice none 0 0) 0 [],res2 rfl rfl rfl,λ _ _ h=>sl_nil (show sat _ _ (C (Dev d s)*Parts [] []) by rw [hC,show Parts [] []=emp by unfold Parts;rfl,star_emp];exact Dr.sat (A':=R*Dev d s) drqz _ _ h),none,0,[],rfl,Nat.le_refl _,rfl,rfl⟩
  have hv0:v≠0:=(by first|(have h9:=of_decide_eq_false h;omega)|(simp at h;omega));refine Zcu ?_;refine tc_regh (S:=R) mo drqz ?_
  show TH _ _ _ _ _ 20 (Array.replicate 20 false) _ _
  refine Zbx ?_;refine Zbw ?_;refine Zcq ?_;refine Zcm ?_;refine tm 8 rfl kqz rfl adqz ?_;refine th_env (d:=44) (v:=(vn (at_+64))) (by first|rfl|(show Value.int .i64 _=_;congr 1;omega)) ?_;refine tm 9 rfl kqz rfl (o_move wqz) ?_;refine tm 10 rfl kqz rfl (o_nilCheck rfl) ?_;refine tm 11 rfl kqz rfl (o_fieldAddr (o:=2) underlying183 rfl rfl sz3 rfl) ?_;refine tm 12 rfl kqz rfl (o_load p3 rfl haqz rfl) ?_;refine tm 13 rfl kqz rfl (o_subI rfl rfl oqz) ?_;refine th_env (d:=49) (v:=(vn (sz-64))) (by show Value.int .i64 ((sz:Int)-64)=_;congr 1;omega) ?_;refine th_one (i:=14) kqz ?_;refine oh_c rfl rfl rfl (o_call bd115 rfl (Load_c (s:=s) (p:=at_+64) (m:=sz-64))) ?_;rintro _ _ ⟨a50,c50,rfl,hc50,rfl⟩;refine ⟨by repeat (first|with_reducible exact dr_refl|apply dr_keep|apply dr_drop), ?_⟩;refine tm 15 rfl kqz rfl (o_move wqz) ?_;refine tm 16 rfl kqz rfl (o_extract rfl rfl) ?_;refine tm 17 rfl kqz rfl (o_extract rfl rfl) ?_;refine tm 18 rfl kqz rfl (o_assign wqz) ?_;refine tm 19 rfl kqz rfl (o_assign wqz) ?_;refine Zby ?_;refine Ze ?_;refine Z3 ?_;intro h;refine Zc ?_;refine Zb9 ?_;refine Zb9 ?_;refine Zr ?_;refine tc_pre (A':=R*Dev d s*Sl 1 (.slice a50 (sz-64) c50) (sz-64) (bys room)*Parts [] []*Sl 2 (.slice none 0 0) 0 []) (λ _ _ h=>sl_nil (show sat _ _ (R*Dev d s*Sl 1 (.slice a50 (sz-64) c50) (sz-64) (bys room)*Parts [] []) by rw [show Parts [] []=emp by unfold Parts;rfl,star_emp];rw [←hroom];exact h)) ?_;refine tc_loop (λ kk ρ BB=>∃ (j:Nat) (p:Nat) (n:Nat) (D:List (Nat×List Nat)) (vs:List Value) (a8:Option Addr) (c8:Nat),(cat D (recsF (s.ls.length*64) at_ sz room j p)=recordsS at_ sz s)/\ (p<=sz-64)/\ (D.length=n)/\ (vs.length=n)/\ (n<=c8)/\ (j<18446744073709551616)/\ (24*n<=p)/\ kk=j/\ ρ 5= .int .u64 (j:Nat)/\ ρ 8= .slice a8 n c8/\ ρ 9=(vn p)/\ ρ 0=(pz bl)/\ ρ 7= .slice a50 (sz-64) c50/\ Dr BB (R*Dev d s*Sl 1 (.slice a50 (sz-64) c50) (sz-64) (bys room)*Parts vs (D.map (·.2))*Sl 2 (.slice a8 n c8) n (kcl D vs))) (m:=(v)) ?_ ?_
  . exact ⟨v,0,0,[],[],none,0,by rw [hrec,cat_nil],by omega,rfl,rfl,by omega,hvl,by omega,rfl,rfl,rfl,rfl,rfl,rfl,drqz⟩
  intro k ρ B hI;obtain ⟨j,p,n,D,vs,a8,c8,hp0,hp1,hp2,hp3,hp4,hp5,hp6,hkk1,hE5,hE8,hE9,hE0,hE7,hBA⟩:=hI;refine tc_pre hBA.sat ?_;clear hBA;refine te 5 hE5 ?_;refine te 8 hE8 ?_;refine te 9 hE9 ?_;refine te 0 hE0 ?_;refine te 7 hE7 ?_;refine Ze ?_;refine Zgj ?_;refine tc_cond rfl (λ h=> ?_) (λ h=> ?_)
  . have hj:0<j:=(by first|omega|(simp at h;omega));refine Zd1 ?_;refine Zbc ?_;refine tl_c rfl (o_call bd167 rfl (read_c (s:=s) (p:=p) (room:=room))) ?_;rintro _ _ ⟨a64,c64,rfl,hc64,rfl⟩;refine Zbj ?_;refine tv (o_extract rfl rfl) ?_;refine tl_x rfl (o_alloc z210 rfl) ?_;rintro _ _ ⟨b10,rfl,rfl⟩;refine tl_u rfl (o_stUN (l':=[.int .i64 ((rdW (readS (s.ls.length*64) at_ sz room p):Nat):Int),(.slice a64 (rdO (readS (s.ls.length*64) at_ sz room p)).length c64)]) rfl upqz sz210 rfl rfl rfl (by show 2<=2;decide) rfl) ?_;refine Zbm ?_;refine tv (o_not rfl) ?_;refine nq ?_;refine tc_cond rfl (λ h=> ?_) (λ h=> ?_)
    . have hrd:(readS (s.ls.length*64) at_ sz room p)=none:=(by rcases hq9:(readS (s.ls.length*64) at_ sz room p) with _|x;rfl;rw [hq9] at h;simp at h);refine sr ?_;refine tla ?_;refine Zck ?_;have e0:recordsS at_ sz s=([],110):=(by rw [←hp0,recs_none hrd hj]);rw [e0]
      exact ⟨.tuple #[.slice none 0 0,.int .i64 (110)],C (Dev d s)*Parts [] []*Sl 2 (.slice none 0 0) 0 [],res2 rfl rfl rfl,λ _ _ h=>sl_nil (show sat _ _ (C (Dev d s)*Parts [] []) by rw [hC,show Parts [] []=emp by unfold Parts;rfl,star_emp];exact Dr.sat (A':=R*Dev d s) drqz _ _ h),none,0,[],rfl,Nat.le_refl _,rfl,rfl⟩
    have hrd:=rd_some (o:=(readS (s.ls.length*64) at_ sz room p)) (by simpa using h);have hrm:=read_room hrd;refine Zbq ?_;refine tv (o_loadN (vs:=[.int .i64 ((rdW (readS (s.ls.length*64) at_ sz room p):Nat):Int),(.slice a64 (rdO (readS (s.ls.length*64) at_ sz room p)).length c64)]) a210 sz210 rfl hsqz (by show 2<=2;decide) rfl) ?_;refine tl_x rfl (o_buildSliceK (k:=2) (l:=[.int .i64 ((rdW (readS (s.ls.length*64) at_ sz room p):Nat):Int),(.slice a64 (rdO (readS (s.ls.length*64) at_ sz room p)).length c64)]) underlying184 sz210 z210 rfl rfl (by decide)) ?_;rintro _ _ ⟨b72,rfl,rfl⟩;refine tl_x rfl (o_apB underlying184 underlying184 sz210 by210 z210 rfl (by decide) (by decide) rfl rfl rfl ctqz rfl rfl oqz (show _=kcl (D++[(rdW (readS (s.ls.length*64) at_ sz room p),rdO (readS (s.ls.length*64) at_ sz room p))]) (vs++[(.slice a64 (rdO (readS (s.ls.length*64) at_ sz room p)).length c64)]) by rw [kcl_snoc oqz])) ?_;rintro _ _ ⟨a73,c73,rfl,hc73,rfl⟩;have hps:Parts (vs++[(.slice a64 (rdO (readS (s.ls.length*64) at_ sz room p)).length c64)]) ((D++[(rdW (readS (s.ls.length*64) at_ sz room p),rdO (readS (s.ls.length*64) at_ sz room p))]).map (·.2))=Parts vs (D.map (·.2))*Sl 1 (.slice a64 (rdO (readS (s.ls.length*64) at_ sz room p)).length c64) (rdO (readS (s.ls.length*64) at_ sz room p)).length (bys (rdO (readS (s.ls.length*64) at_ sz room p))):=(by rw [List.map_append];exact parts_snoc (by rw [List.length_map];omega));refine tl_eq (show _=R*Dev d s*Sl 1 (.slice a50 (sz-64) c50) (sz-64) (bys room)*Parts (vs++[(.slice a64 (rdO (readS (s.ls.length*64) at_ sz room p)).length c64)]) ((D++[(rdW (readS (s.ls.length*64) at_ sz room p),rdO (readS (s.ls.length*64) at_ sz room p))]).map (·.2))*Sl 2 (.slice a73 (n+1) c73) (n+1) (kcl (D++[(rdW (readS (s.ls.length*64) at_ sz room p),rdO (readS (s.ls.length*64) at_ sz room p))]) (vs++[(.slice a64 (rdO (readS (s.ls.length*64) at_ sz room p)).length c64)]))*pt b10 (cl ([.int .i64 ((rdW (readS (s.ls.length*64) at_ sz room p):Nat):Int),(.slice a64 (rdO (readS (s.ls.length*64) at_ sz room p)).length c64)]:List Value) 210) by rw [hps];ac_rfl) ?_;refine Za ?_;refine Zw ?_;refine Zbz ?_;refine tl_env (d:=76) (v:= .int .i64 ((p+rkT (readS (s.ls.length*64) at_ sz room p):Nat):Int)) (by first|rfl|(show Value.int .i64 _=_;congr 1;omega)) ?_;refine Zeu ?_;refine tlm ?_;refine tv (o_sub rfl rfl) ?_;refine tl_env (d:=59) (v:= .int .u64 ((j-1:Nat):Int)) (by show Value.int .u64 (IntKind.u64.wrap ((j:Int)-1))=_;rw [show (j:Int)-1=((j-1:Nat):Int) by omega,wr_u64 oqz]) ?_;refine Za ?_;exact ⟨_,by omega,j-1,_,n+1,D++[(rdW (readS (s.ls.length*64) at_ sz room p),rdO (readS (s.ls.length*64) at_ sz room p))],vs++[(.slice a64 (rdO (readS (s.ls.length*64) at_ sz room p)).length c64)],a73,c73,by rw [←recs_some hrd hj];exact hp0,by omega,by rw [List.length_append,hp2];rfl,by rw [List.length_append,hp3];rfl,hc73,by omega,by omega,rfl,rfl,rfl,rfl,rfl,rfl,drqz⟩
  obtain rfl:j=0:=by first|omega|(simp at h;omega)
  refine Zda ?_;refine Zdd ?_;have e0:recordsS at_ sz s=(D,0):=(by rw [←hp0];unfold recsF cat;rw [if_neg (by simp),List.append_nil]);rw [e0]
  exact ⟨.tuple #[.slice a8 n c8,.int .i64 0],R*Dev d s*Parts vs (D.map (·.2))*Sl 2 (.slice a8 n c8) n (kcl D vs),res2 rfl rfl rfl,Dr.sat drqz,a8,c8,vs,by rw [hp2],by rw [hp2];exact hp4,by rw [hp3];exact hp2.symm,by rw [hC];simp only [];rw [hp2]⟩
end Go.Vl

namespace Go.Vl
open Go Go.Proofs Go.Proofs.Tryz
namespace Rg
section
variable {P:Program} {n:Nat} {ops:Array Oper} {A:SP} {ρ:Env} {o:Oper} {rest:List Oper} {Q:Post}
def QL (P:Program)(n:Nat)(ops:Array Oper)(A:SP)(K:Env->Prop)(l:List Oper)(ρ:Env):Prop:=
  ∀g a,Agr n ρ a->wpQuietIn (Fc ⟨none⟩) 0 P ops (λ w=>sat g w A) (λ a'=>∃ρ',Agr n ρ' a'/\ K ρ') l a
theorem ql_nil {K:Env->Prop}(h:K ρ):QL P n ops A K [] ρ:=λ g a ha=>wpQuietIn_nil ⟨ρ,ha,h⟩
theorem ql_skip {K:Env->Prop}(hw:wantE n ops ρ o=false)(k:QL P n ops A K rest (put n ρ o.dst undef)):QL P n ops A K (o::rest) ρ:=λ g a ha=>by
  unfold wpQuietIn
  rw [want_eq ha,hw]
  exact ⟨λ _ _ _ _=>trivial,k g _ (ha.put _ _)⟩
theorem ql_v {K:Env->Prop}{v:Value}(hw:wantE n ops ρ o=true)(h:OpV P n ρ A o v)(k:QL P n ops A K rest (put n ρ o.dst v)):QL P n ops A K (o::rest) ρ:=λ g a ha=>by
  unfold wpQuietIn
  rw [want_eq ha,hw,if_pos rfl]
  refine ⟨λ _ _ _ _=>trivial,v,λ w hs=> ?_,k g _ (ha.put _ _)⟩
  unfold Oper.quietAtIn
  rw [ha.eval,h g w hs]
  exact ⟨rfl,rfl⟩
theorem ql_env {K:Env->Prop}{l:List Oper}{d:Nat}{v:Value}(h:ρ d=v)(k:QL P n ops A K l (upd ρ d v)):QL P n ops A K l ρ:=by
  rw [←env_set h] at k;exact k
theorem ql_bool {K:Env->Prop}{l:List Oper}{d:Nat}{b:Bool}(hv:ρ d= .bool b)(ht:b=true->QL P n ops A K l (upd ρ d (.bool true)))(hf:b=false->QL P n ops A K l (upd ρ d (.bool false))):QL P n ops A K l ρ:=by
  cases b with
  |true=>exact ql_env hv (ht rfl)
  |false=>exact ql_env hv (hf rfl)
theorem tc_regq {id:Nat}{l:List Oper}(hm:P.follows .mixedOrders=true)(hB:Region.lexB .any l.toArray=true)(h:QL P n l.toArray A (λ ρ'=>Q .normal ρ' A) l ρ):
    @TC ⟨none⟩ P n (.region id l.toArray true) Q ρ A:=λ g a w ha hs=>by
  refine wpIn_region_quiet (C:=λ w=>sat g w A) rfl hm hB (hs.draw rfl rfl rfl rfl) ?_;have hh:=h g a ha;have he:l.toArray.toList=l:=(by simp);rw [he]
  have mono:∀ (l':List Oper) (a:Act),wpQuietIn (Fc ⟨none⟩) 0 P l.toArray (λ w=>sat g w A) (λ a'=>∃ρ',Agr n ρ' a'/\ Q .normal ρ' A) l' a→
      wpQuietIn (Fc ⟨none⟩) 0 P l.toArray (λ w=>sat g w A) (λ a'=>∀w',sat g w' A->lift g n Q .normal a' w') l' a:=by
    intro l'
    induction l' with
    |nil=>intro a ⟨ρ',h1,h2⟩ w' hw';exact ⟨rfl,ρ',A,h1,hw',h2⟩
    |cons o l' ih=>
      intro a h
      unfold wpQuietIn at h ⊢
      refine ⟨h.1, ?_⟩;have h2:=h.2
      split
      . rename_i hw
        rw [if_pos hw] at h2
        exact Oper.quietIn_mono (λ a=>ih a) h2
      rename_i hw
      rw [if_neg hw] at h2
      exact ih _ h2
  exact mono l a hh
end
end Rg
namespace Rg
section
variable {P:Program} {m:Nat} {ops:Array Oper} {μ:Rm}
def nodB (l:List Oper):Bool:=l.all λ o=>match o.op with| .defer _=>false|_=>true
theorem nod_of {l:List Oper}(h:nodB l=true):∀ (i:Nat) (o:Oper),l.toArray[i]? =some o->∀c,o.op≠ .defer c:=λ i o hi c e=>by
  have h1:=List.all_eq_true.1 h o (List.mem_of_getElem? (by simpa using hi))
  simp [e] at h1
theorem upon_tr {o:Oper}{a:Act}{K:Act->World->Prop}{Q:Exit->Act->World->Prop}{r:Result Next}:Oper.uponIn (Fc ⟨none⟩) m P o a K Q r=Oper.uponIn (Fc μ) m P o a K Q r:=by
  cases r with
  |ok x w=>cases x<;>rfl
  |halt x w=>cases x<;>rfl
theorem op_tr {i:Nat}{K:Act->World->Prop}{Q:Exit->Act->World->Prop}{a:Act}{w:World}(hnd:∀ (i:Nat) (o:Oper),ops[i]? =some o->∀c,o.op≠ .defer c)(h:wpOpIn (Fc ⟨none⟩) m P ops Q i K a w):wpOpIn (Fc μ) m P ops Q i K a w:=by
  unfold wpOpIn at*
  cases hi:ops[i]? with
  |none=>simpa [hi] using h
  |some o=>
    simp only [hi] at h ⊢
    split
    . rename_i hw
      simp only [hw,if_true] at h
      unfold Oper.wpIn at*
      rw [Oper.semAt_eq _ _ _ (hnd i o hi)] at h ⊢
      rw [←upon_tr]
      exact h
    rename_i hw
    simp only [hw] at h
    exact h
theorem any_tr {Q:Exit->Act->World->Prop}(hnd:∀ (i:Nat) (o:Oper),ops[i]? =some o->∀c,o.op≠ .defer c):∀ (fuel:Nat) (listed:Array Bool) (a:Act) (w:World),wpAnyIn (Fc ⟨none⟩) m P .any ops Q fuel listed a w->wpAnyIn (Fc μ) m P .any ops Q fuel listed a w
  |0,_,_,_,h=>h
  |fuel+1,_,_,_,h=>⟨h.1,λ i hi=>op_tr hnd (wpOpIn_mono (λ a w=>any_tr hnd fuel _ a w) (h.2 i hi))⟩
theorem tc_regt {n:Nat}{Q:Post}{ρ:Env}{A:SP}{id:Nat}{l:List Oper}(hm:P.follows .mixedOrders=true)(hd:nodB l=true)
    (h:∀g a w,Agr n ρ a->sat g w A->wpAnyIn (Fc ⟨none⟩) 0 P .any l.toArray (lift g n Q) l.length (Array.replicate l.length false) a w): @TC μ P n (.region id l.toArray true) Q ρ A:=λ g a w ha hs=>
  wpIn_region_any hm (by
    have h1:=h g a { w with drawn:=w.drawn+1 } ha (hs.draw rfl rfl rfl rfl);have h2:=any_tr (μ:=μ) (nod_of hd) _ _ _ _ h1
    simpa using h2)
end
end Rg
namespace Rg
section
variable {P:Program} {n:Nat} {ops:Array Oper} {A S:SP} {ρ:Env} {o:Oper} {Q:Post}
def notCall (o:Oper):Bool:=match o.op with| .call _=>false|_=>true
theorem about_none {o:Oper}(h:notCall o=true)(w:World)(e:Operand->Value):o.about P w e=none:=by
  unfold notCall at h
  unfold Oper.about
  cases ho:o.op<;>first|rfl|(simp [ho] at h)
def TH (P:Program)(n:Nat)(ops:Array Oper)(Q:Post)(S:SP)(fuel:Nat)(listed:Array Bool)(ρ:Env)(A:SP):Prop:=
  ∀g a w,Agr n ρ a->sat g w A->wpAnyIn (Fc ⟨none⟩) 0 P .any ops (lift g n Q) fuel listed a w
theorem tc_regh {μ:Rm}{id:Nat}{l:List Oper}(hm:P.follows .mixedOrders=true)(hd:Dr A S)(h:TH P n l.toArray Q S l.length (Array.replicate l.length false) ρ A)(hn:nodB l=true:=by kernel_rfl): @TC μ P n (.region id l.toArray true) Q ρ A:=
  tc_regt hm hn h
theorem th_done {fuel:Nat}{listed:Array Bool}(hr:Region.ready .any ops listed=[])(h:Q .normal ρ A):TH P n ops Q S fuel listed ρ A:=λ g a w ha hs=>
  wpAnyIn_done hr ⟨rfl,ρ,A,ha,hs,h⟩ fuel
theorem th_take {fuel i:Nat}{listed listed':Array Bool}{v:Value}(hi:ops[i]? =some o)(hs':Region.noSelect ops=true)(hf:Region.free .any ops listed i=true)(hr:(Region.ready .any ops listed).contains i=true)
    (hl:listed.setIfInBounds i true=listed') (hw:wantE n ops ρ o=true) (hv:OpV P n ρ emp o v) (k:TH P n ops Q S fuel listed' (put n ρ o.dst v) A) (hc:notCall o=true:=by rfl):TH P n ops Q S (fuel+1) listed ρ A:=λ g a w ha hs=>
  wpAnyIn_take rfl hi hs' hf hr (λ c a w h=>absurd h.1 (by simp [okE])) ⟨.inl ⟨by rw [want_eq ha,hw],λ w'=>by
    rw [ha.eval]
    exact hv ⟨w'.os,w'.tape,w'.output⟩ w' ⟨rfl,rfl,rfl,_,rfl,λ _ _ _ h=>by cases h⟩⟩,λ w'=>about_none hc w' _⟩ (by rw [hl];exact k g _ w (ha.put _ _) hs)
def OH (P:Program)(n:Nat)(ops:Array Oper)(Q:Post)(S:SP)(fuel i:Nat)(listed:Array Bool)(ρ:Env)(A:SP):Prop:=
  ∀g a w,Agr n ρ a->sat g w A->wpOpIn (Fc ⟨none⟩) 0 P ops (lift g n Q) i (wpAnyIn (Fc ⟨none⟩) 0 P .any ops (lift g n Q) fuel (listed.setIfInBounds i true)) a w
theorem th_all {fuel:Nat}{listed:Array Bool}{rs:List Nat}(hr:Region.ready .any ops listed=rs)(hne:rs≠[])(h:∀i∈rs,OH P n ops Q S fuel i listed ρ A):TH P n ops Q S (fuel+1) listed ρ A:=λ g a w ha hs=>
  wpAnyIn_all hr hne λ i hi=>h i hi g a w ha hs
theorem th_one {fuel i:Nat}{listed:Array Bool}(hr:Region.ready .any ops listed=[i])(h:OH P n ops Q S fuel i listed ρ A):TH P n ops Q S (fuel+1) listed ρ A:=th_all hr (by simp) (by simpa using h)
theorem th_two {fuel i j:Nat}{listed:Array Bool}(hr:Region.ready .any ops listed=[i,j])(h:OH P n ops Q S fuel i listed ρ A)(h':OH P n ops Q S fuel j listed ρ A):TH P n ops Q S (fuel+1) listed ρ A:=
  th_all hr (by simp) (by simpa using ⟨h,h'⟩)
theorem th_three {fuel i j k:Nat}{listed:Array Bool}(hr:Region.ready .any ops listed=[i,j,k])(h:OH P n ops Q S fuel i listed ρ A)(h':OH P n ops Q S fuel j listed ρ A)(h'':OH P n ops Q S fuel k listed ρ A):TH P n ops Q S (fuel+1) listed ρ A:=
  th_all hr (by simp) (by simpa using ⟨h,h',h''⟩)
section
variable {fuel i:Nat} {listed listed':Array Bool}
theorem oh_v {v:Value}(hi:ops[i]? =some o)(hl:listed.setIfInBounds i true=listed')(hw:wantE n ops ρ o=true)(h:OpV P n ρ A o v)(k:TH P n ops Q S fuel listed' (put n ρ o.dst v) A):OH P n ops Q S fuel i listed ρ A:=λ g a w ha hs=>by
  subst hl
  unfold wpOpIn
  simp only [hi,want_eq ha,hw,if_true]
  refine ⟨λ _ _=>trivial, ?_⟩;rw [ha.eval,sem_eq (h g w hs) (by simp)]
  exact k g _ w (ha.put _ _) hs
theorem oh_x {R:Value->SP->Prop}(hi:ops[i]? =some o)(hl:listed.setIfInBounds i true=listed')(hw:wantE n ops ρ o=true)(h:OpX P n ρ A o R)(k:∀v B,R v B->Dr B S/\ TH P n ops Q S fuel listed' (put n ρ o.dst v) B):OH P n ops Q S fuel i listed ρ A:=λ g a w ha hs=>by
  subst hl
  unfold wpOpIn
  simp only [hi,want_eq ha,hw,if_true]
  refine ⟨λ _ _=>trivial, ?_⟩;obtain ⟨v,w',B,hr,hb,hR⟩:=h g w hs;rw [ha.eval,sem_eq hr (by simp)]
  exact (k v B hR).2 g _ w' (ha.put _ _) hb
theorem oh_c {R:Value->SP->Prop}(hi:ops[i]? =some o)(hl:listed.setIfInBounds i true=listed')(hw:wantE n ops ρ o=true)(h:OpC P n ρ A o R)(k:∀v B,R v B->Dr B S/\ TH P n ops Q S fuel listed' (put n ρ o.dst v) B):OH P n ops Q S fuel i listed ρ A:=λ g a w ha hs=>by
  subst hl
  unfold wpOpIn
  simp only [hi,want_eq ha,hw,if_true]
  refine ⟨λ _ _=>trivial, ?_⟩;obtain ⟨f,args,w',hr,hc⟩:=h g w hs;rw [ha.eval,sem_eq hr (by simp)]
  refine ⟨λ h=>(by cases h), ?_⟩;have hc':CallsIn Fence.wide (0-1) P f args w' λ e w''=>∃v B,e= .returned v/\ R v B/\ sat g w'' B:=callsIn_wide.2 hc
  refine CallsIn.mono (show CallsIn (Fc ⟨none⟩) (0-1) P f args w' _ from hc') λ e w'' ⟨v,B,he,hR,hb⟩=> ?_
  subst he;exact (k v B hR).2 g _ w'' (ha.put _ _) hb
theorem oh_u {B:SP}(hi:ops[i]? =some o)(hl:listed.setIfInBounds i true=listed')(hw:wantE n ops ρ o=true)(h:OpU P n ρ A o B)(hd:Dr B S)(k:TH P n ops Q S fuel listed' (put n ρ o.dst undef) B):OH P n ops Q S fuel i listed ρ A:=λ g a w ha hs=>by
  subst hl
  unfold wpOpIn
  simp only [hi,want_eq ha,hw,if_true]
  refine ⟨λ _ _=>trivial, ?_⟩;obtain ⟨w',hr,hb⟩:=h g w hs;rw [ha.eval,sem_eq hr (by simp)]
  exact k g _ w' (ha.put _ _) hb
end
theorem th_env {fuel:Nat}{listed:Array Bool}{d:Nat}{v:Value}(h:ρ d=v)(k:TH P n ops Q S fuel listed (upd ρ d v) A):TH P n ops Q S fuel listed ρ A:=by
  rw [←env_set h] at k;exact k
end
end Rg
theorem has_rt {F R:SP}{b:Nat}{o:Obj}(k:Has R b o):Has (F*R) b o:=λ g w h=>k g w h.right
theorem flL_e {N i q:Nat}{s s2:DevS}{e:Int}(hi:i<N)(h:fl1 (((q+i)*64:Nat):Int) s=(e,s2))(he:e≠0):flL (N-i) (q+i) s=(e,s2):=by
  rw [show N-i=(N-(i+1))+1 by omega]
  show (if _ then _ else _)=_
  rw [h,if_pos he]
theorem flL_o {N i q:Nat}{s s2:DevS}(hi:i<N)(h:fl1 (((q+i)*64:Nat):Int) s=(0,s2)):flL (N-i) (q+i) s=flL (N-(i+1)) (q+(i+1)) s2:=by
  rw [show N-i=(N-(i+1))+1 by omega]
  show (if _ then _ else _)=_
  rw [h,if_neg (by simp)];rfl
attribute [local irreducible] crk crL crc Sl pt ro Dev imgS recS readS recsF rdW rdO rkT Parts
namespace Rg
theorem Y8 {p r:Prop}(k:r)(h:Kq r->p:=by intro k;refine oh_v rfl rfl rfl (by first|exact o_load p75 rfl (by repeat (first|with_reducible exact has_here|with_reducible exact has_pt|apply has_left)) rfl|exact o_loadC p75 rfl (by assumption)) ?_;refine th_take (i:=1) rfl kqz kqz kqz rfl rfl (o_nilCheck rfl) ?_;refine th_take (i:=2) rfl kqz kqz kqz rfl rfl (o_fieldAddr (o:=0) underlying183 rfl rfl sz28 rfl) ?_;exact k.o):p:=h ⟨k⟩
theorem Yb7 {p r:Prop}(k:r)(h:Kq r->p:=by intro k;refine th_one (i:=7) kqz ?_;refine oh_v rfl rfl rfl (by first|exact o_load p32 rfl (by repeat (first|with_reducible exact has_here|with_reducible exact has_pt|apply has_left)) rfl|exact o_loadC p32 rfl (by assumption)) ?_;exact k.o):p:=h ⟨k⟩
theorem Ycb {p r:Prop}(k:r)(h:Kq r->p:=by intro k;refine ⟨by repeat (first|with_reducible exact dr_refl|apply dr_keep|apply dr_drop), ?_⟩;refine th_take (i:=9) rfl kqz kqz kqz rfl rfl (o_assign wqz) ?_;refine th_done kqz ?_;exact k.o):p:=h ⟨k⟩
theorem Yb8 {p r:Prop}(k:r)(h:Kq r->p:=by intro k;refine th_one (i:=5) kqz ?_;refine oh_v rfl rfl rfl (by first|exact o_load p3 rfl (by repeat (first|with_reducible exact has_here|with_reducible exact has_pt|apply has_left)) rfl|exact o_loadC p3 rfl (by assumption)) ?_;exact k.o):p:=h ⟨k⟩
theorem Yg6 {p r:Prop}(k:r)(h:Kq r->p:=by intro k;refine oh_v rfl rfl rfl (o_load p28 rfl (by repeat (first|assumption|apply has_left)) rfl) ?_;refine Yb7 ?_;exact k.o):p:=h ⟨k⟩
theorem Ydm {p r:Prop}(k:r)(h:Kq r->p:=by intro k;refine th_one (i:=3) kqz ?_;refine oh_v rfl rfl rfl (o_load p28 rfl (by repeat (first|assumption|apply has_left)) rfl) ?_;refine th_one (i:=8) kqz ?_;exact k.o):p:=h ⟨k⟩
theorem Yef {p r:Prop}(k:r)(h:Kq r->p:=by intro k;refine oh_v rfl rfl rfl (by first|exact o_load p32 rfl (by repeat (first|with_reducible exact has_here|with_reducible exact has_pt|apply has_left)) rfl|exact o_loadC p32 rfl (by assumption)) ?_;refine Ydm ?_;exact k.o):p:=h ⟨k⟩
theorem Yg7 {p r:Prop}(k:r)(h:Kq r->p:=by intro k;refine oh_v rfl rfl rfl (o_load p28 rfl (by repeat (first|assumption|apply has_left)) rfl) ?_;refine Yb8 ?_;exact k.o):p:=h ⟨k⟩
theorem Yeg {p r:Prop}(k:r)(h:Kq r->p:=by intro k;refine oh_v rfl rfl rfl (by first|exact o_load p3 rfl (by repeat (first|with_reducible exact has_here|with_reducible exact has_pt|apply has_left)) rfl|exact o_loadC p3 rfl (by assumption)) ?_;refine Ydm ?_;exact k.o):p:=h ⟨k⟩
theorem Ych {p r:Prop}(k:r)(h:Kq r->p:=by intro k;refine Y5 ?_;refine tl_v rfl (by first|exact o_load p75 rfl (by repeat (first|with_reducible exact has_here|with_reducible exact has_pt|apply has_left)) rfl|exact o_loadC p75 rfl (by assumption)) ?_;exact k.o):p:=h ⟨k⟩
theorem Yg5 {p r:Prop}(k:r)(h:Kq r->p:=by intro k;refine tl_v rfl (o_nilCheck rfl) ?_;refine tl_v rfl (o_fieldAddr (o:=0) underlying183 rfl rfl sz28 rfl) ?_;exact k.o):p:=h ⟨k⟩
theorem back_c {A R:SP}{C:SP->SP}{d:Nat}{s:DevS}(hc:Ct A (Dev d s) R C:=by repeat (first|with_reducible exact ct_here|apply ct_left)){bl at_ sz:Nat}(hl:Has R bl (cl (lcs11 d at_ sz) 183):=by (repeat (first|assumption|with_reducible exact has_here|with_reducible exact has_pt|apply has_left))){a:Option Addr}{c m p:Nat}{xs:List Nat}(hr:Rs R a (bys xs):=by repeat (first|assumption|with_reducible exact rs_sl|with_reducible exact rs_pt0|exact rs_none|apply Rs.left))(hm:xs.length=m:=by first|assumption|rfl)(hmc:m<=c:=by first|assumption|omega)(hb:∀x∈xs,x<256:=by assumption)(h1:1<=m:=by omega)(hpm:p+m<=s.ls.length*64:=by omega)(hroom:Room m s:=by assumption):
    Fn Tryz.prog 169 #[pz bl,.agg #[vn p,.slice a m c]] A (λ r B=>∃e s2,backS (p,xs) s=(e,s2)/\ r= .int .i64 e/\ B=C (Dev d s2)):=by
  refine fn_enterW func169 rfl ntmps169 (by simp) ?_;refine tc_have (λ _ _ h=>ct_wf2 hc h) λ hw=> ?_
  have htop:=hw.top;have hpos:=hw.pos;obtain ⟨rfl,hC⟩:=hc;have hAC:∀g w,sat g w (R*Dev d s)->sat g w (C (Dev d s)):=λ g w h=>by rw [hC];exact h
  refine Y5 ?_;refine tl_x rfl (o_box rfl rfl) ?_;rintro _ _ ⟨b2,rfl,rfl⟩;refine tl_x rfl (o_box rfl rfl) ?_;rintro _ _ ⟨b3,rfl,rfl⟩;refine tl_x rfl (o_alloc z43 rfl) ?_;rintro _ _ ⟨b4,rfl,rfl⟩;refine Y6 ?_;refine tc_seq ?_;refine tc_seq ?_;refine tc_cut (λ ρ BB=>∃ (e16:Int) (s16:DevS),(sto (p:Nat) xs s=(e16,s16))/\ ρ 5= .int .i64 e16/\ ρ 37=undef/\ ρ 2=(pz b2)/\ ρ 3=(pz b3)/\ ρ 4=(pz b4)/\ BB=R*Dev d s16*pt b2 (cl [pz bl] 75)*pt b3 (cl [vn p,.slice a m c] 210)*pt b4 (cl [.int .i64 0] 43)) ?_ ?_
  . skip
    refine tc_regh (S:=R) mo (by repeat (first|with_reducible exact dr_refl|apply dr_keep|apply dr_drop)) ?_
    show TH _ _ _ _ _ 10 (Array.replicate 10 false) _ _
    refine th_take (i:=4) rfl kqz kqz kqz rfl rfl (o_fieldAddr (o:=0) underlying210 rfl rfl sz3 rfl) ?_;refine th_take (i:=6) rfl kqz kqz kqz rfl rfl (o_fieldAddr (o:=1) underlying210 rfl rfl sz32 rfl) ?_;refine th_three (i:=0) (j:=5) (k:=7) kqz ?_ ?_ ?_
    . skip
      refine Y8 ?_;refine th_three (i:=3) (j:=5) (k:=7) kqz ?_ ?_ ?_
      . skip
        refine oh_v rfl rfl rfl (o_load p28 rfl (by repeat (first|assumption|apply has_left)) rfl) ?_;refine th_two (i:=5) (j:=7) kqz ?_ ?_
        . skip
          refine oh_v rfl rfl rfl (by first|exact o_load p3 rfl (by repeat (first|with_reducible exact has_here|with_reducible exact has_pt|apply has_left)) rfl|exact o_loadC p3 rfl (by assumption)) ?_;refine Yb7 ?_;refine th_one (i:=8) kqz ?_;refine oh_c rfl rfl rfl (o_call bd154 rfl (Store_c (s:=s) (p:=(p:Nat)) (xs:=xs) (hroom:=λ _=>hroom))) ?_;rintro _ _ ⟨e16,s16,hs16,rfl,rfl⟩;refine Ycb ?_;exact ⟨e16,s16,hs16,rfl,rfl,rfl,rfl,rfl,rfl⟩
        . skip
          refine oh_v rfl rfl rfl (by first|exact o_load p32 rfl (by repeat (first|with_reducible exact has_here|with_reducible exact has_pt|apply has_left)) rfl|exact o_loadC p32 rfl (by assumption)) ?_;refine Yb8 ?_;refine th_one (i:=8) kqz ?_;refine oh_c rfl rfl rfl (o_call bd154 rfl (Store_c (s:=s) (p:=(p:Nat)) (xs:=xs) (hroom:=λ _=>hroom))) ?_;rintro _ _ ⟨e16,s16,hs16,rfl,rfl⟩;refine Ycb ?_;exact ⟨e16,s16,hs16,rfl,rfl,rfl,rfl,rfl,rfl⟩
      . skip
        refine oh_v rfl rfl rfl (by first|exact o_load p3 rfl (by repeat (first|with_reducible exact has_here|with_reducible exact has_pt|apply has_left)) rfl|exact o_loadC p3 rfl (by assumption)) ?_;refine th_two (i:=3) (j:=7) kqz ?_ ?_
        . skip
          refine Yg6 ?_;refine th_one (i:=8) kqz ?_;refine oh_c rfl rfl rfl (o_call bd154 rfl (Store_c (s:=s) (p:=(p:Nat)) (xs:=xs) (hroom:=λ _=>hroom))) ?_;rintro _ _ ⟨e16,s16,hs16,rfl,rfl⟩;refine Ycb ?_;exact ⟨e16,s16,hs16,rfl,rfl,rfl,rfl,rfl,rfl⟩
        . skip
          refine Yef ?_;refine oh_c rfl rfl rfl (o_call bd154 rfl (Store_c (s:=s) (p:=(p:Nat)) (xs:=xs) (hroom:=λ _=>hroom))) ?_;rintro _ _ ⟨e16,s16,hs16,rfl,rfl⟩;refine Ycb ?_;exact ⟨e16,s16,hs16,rfl,rfl,rfl,rfl,rfl,rfl⟩
      . skip
        refine oh_v rfl rfl rfl (by first|exact o_load p32 rfl (by repeat (first|with_reducible exact has_here|with_reducible exact has_pt|apply has_left)) rfl|exact o_loadC p32 rfl (by assumption)) ?_;refine th_two (i:=3) (j:=5) kqz ?_ ?_
        . skip
          refine Yg7 ?_;refine th_one (i:=8) kqz ?_;refine oh_c rfl rfl rfl (o_call bd154 rfl (Store_c (s:=s) (p:=(p:Nat)) (xs:=xs) (hroom:=λ _=>hroom))) ?_;rintro _ _ ⟨e16,s16,hs16,rfl,rfl⟩;refine Ycb ?_;exact ⟨e16,s16,hs16,rfl,rfl,rfl,rfl,rfl,rfl⟩
        . skip
          refine Yeg ?_;refine oh_c rfl rfl rfl (o_call bd154 rfl (Store_c (s:=s) (p:=(p:Nat)) (xs:=xs) (hroom:=λ _=>hroom))) ?_;rintro _ _ ⟨e16,s16,hs16,rfl,rfl⟩;refine Ycb ?_;exact ⟨e16,s16,hs16,rfl,rfl,rfl,rfl,rfl,rfl⟩
    . skip
      refine oh_v rfl rfl rfl (by first|exact o_load p3 rfl (by repeat (first|with_reducible exact has_here|with_reducible exact has_pt|apply has_left)) rfl|exact o_loadC p3 rfl (by assumption)) ?_;refine th_two (i:=0) (j:=7) kqz ?_ ?_
      . skip
        refine Y8 ?_;refine th_two (i:=3) (j:=7) kqz ?_ ?_
        . skip
          refine Yg6 ?_;refine th_one (i:=8) kqz ?_;refine oh_c rfl rfl rfl (o_call bd154 rfl (Store_c (s:=s) (p:=(p:Nat)) (xs:=xs) (hroom:=λ _=>hroom))) ?_;rintro _ _ ⟨e16,s16,hs16,rfl,rfl⟩;refine Ycb ?_;exact ⟨e16,s16,hs16,rfl,rfl,rfl,rfl,rfl,rfl⟩
        . skip
          refine Yef ?_;refine oh_c rfl rfl rfl (o_call bd154 rfl (Store_c (s:=s) (p:=(p:Nat)) (xs:=xs) (hroom:=λ _=>hroom))) ?_;rintro _ _ ⟨e16,s16,hs16,rfl,rfl⟩;refine Ycb ?_;exact ⟨e16,s16,hs16,rfl,rfl,rfl,rfl,rfl,rfl⟩
      . skip
        refine oh_v rfl rfl rfl (by first|exact o_load p32 rfl (by repeat (first|with_reducible exact has_here|with_reducible exact has_pt|apply has_left)) rfl|exact o_loadC p32 rfl (by assumption)) ?_;refine th_one (i:=0) kqz ?_;refine Y8 ?_;refine Ydm ?_;refine oh_c rfl rfl rfl (o_call bd154 rfl (Store_c (s:=s) (p:=(p:Nat)) (xs:=xs) (hroom:=λ _=>hroom))) ?_;rintro _ _ ⟨e16,s16,hs16,rfl,rfl⟩;refine Ycb ?_;exact ⟨e16,s16,hs16,rfl,rfl,rfl,rfl,rfl,rfl⟩
    . skip
      refine oh_v rfl rfl rfl (by first|exact o_load p32 rfl (by repeat (first|with_reducible exact has_here|with_reducible exact has_pt|apply has_left)) rfl|exact o_loadC p32 rfl (by assumption)) ?_;refine th_two (i:=0) (j:=5) kqz ?_ ?_
      . skip
        refine Y8 ?_;refine th_two (i:=3) (j:=5) kqz ?_ ?_
        . skip
          refine Yg7 ?_;refine th_one (i:=8) kqz ?_;refine oh_c rfl rfl rfl (o_call bd154 rfl (Store_c (s:=s) (p:=(p:Nat)) (xs:=xs) (hroom:=λ _=>hroom))) ?_;rintro _ _ ⟨e16,s16,hs16,rfl,rfl⟩;refine Ycb ?_;exact ⟨e16,s16,hs16,rfl,rfl,rfl,rfl,rfl,rfl⟩
        . skip
          refine Yeg ?_;refine oh_c rfl rfl rfl (o_call bd154 rfl (Store_c (s:=s) (p:=(p:Nat)) (xs:=xs) (hroom:=λ _=>hroom))) ?_;rintro _ _ ⟨e16,s16,hs16,rfl,rfl⟩;refine Ycb ?_;exact ⟨e16,s16,hs16,rfl,rfl,rfl,rfl,rfl,rfl⟩
      . skip
        refine oh_v rfl rfl rfl (by first|exact o_load p3 rfl (by repeat (first|with_reducible exact has_here|with_reducible exact has_pt|apply has_left)) rfl|exact o_loadC p3 rfl (by assumption)) ?_;refine th_one (i:=0) kqz ?_;refine Y8 ?_;refine Ydm ?_;refine oh_c rfl rfl rfl (o_call bd154 rfl (Store_c (s:=s) (p:=(p:Nat)) (xs:=xs) (hroom:=λ _=>hroom))) ?_;rintro _ _ ⟨e16,s16,hs16,rfl,rfl⟩;refine Ycb ?_;exact ⟨e16,s16,hs16,rfl,rfl,rfl,rfl,rfl,rfl⟩
  intro ρ B hI;obtain ⟨e16,s16,hst0,hE5,hE37,hE2,hE3,hE4,rfl⟩:=hI;refine q_then_n ?_;refine tc_env (d:=5) hE5 ?_;refine tc_env (d:=37) hE37 ?_;refine tc_env (d:=2) hE2 ?_;refine tc_env (d:=3) hE3 ?_;refine tc_env (d:=4) hE4 ?_;refine tc_seq ?_;have hs16:=hst0;refine tc_reg ?_;refine tlm ?_;refine tl_v rfl (o_nei rfl rfl) ?_;refine Y6 ?_;refine tc_cond rfl (λ h=> ?_) (λ h=> ?_)
  . have he0:e16≠0:=(by simpa using h);refine Yc8 ?_;refine Yfi ?_;refine q_then_r ?_;exact ⟨[],_,rfl,λ _ _ h=>mk0 h,.int .i64 e16,C (Dev d s16),resA1 rfl (rv_cell1 p43 rfl (by repeat (first|with_reducible exact has_here|with_reducible exact has_pt|apply has_left)) rfl),λ _ _ h=>by rw [hC];exact (Dr.sat (A':=R*Dev d s16) (by repeat (first|with_reducible exact dr_refl|apply dr_keep|apply dr_drop))) _ _ h,e16,s16,by unfold backS;simp only [];rw [hs16,if_pos he0],rfl,rfl⟩
  obtain rfl:e16=0:=by simpa using h
  have hsl:=sto_len (p:Nat) xs s;rw [hs16] at hsl
  simp only at hsl
  refine Yed ?_;refine tc_seq ?_;refine Y5 ?_;refine tl_v rfl (o_fieldAddr (o:=0) underlying210 rfl rfl sz3 rfl) ?_;refine tl_v rfl (by first|exact o_load p3 rfl (by repeat (first|with_reducible exact has_here|with_reducible exact has_pt|apply has_left)) rfl|exact o_loadC p3 rfl (by assumption)) ?_;refine tl_v rfl (o_fieldAddr (o:=1) underlying210 rfl rfl sz32 rfl) ?_;refine tl_v rfl (by first|exact o_load p32 rfl (by repeat (first|with_reducible exact has_here|with_reducible exact has_pt|apply has_left)) rfl|exact o_loadC p32 rfl (by assumption)) ?_;refine tl_v rfl (o_len underlying32 rfl) ?_;refine tl_c rfl (o_call bd194 rfl (Lines_c)) ?_;rintro _ _ ⟨w1,w2,rfl,rfl⟩;refine Y6 ?_;refine tc_block ?_;refine tc_rangeI (K:=(pt w1 (cl [.int .i64 (p:Int)] 3)*pt w2 (cl [.int .i64 (m:Int)] 3))) (N:=((p+m-1)/64-p/64+1)) (A0:=R*Dev d s16*pt b2 (cl [pz bl] 75)*pt b3 (cl [vn p,.slice a m c] 210)*pt b4 (cl [.int .i64 0] 43)) (λ i S=>∃ (s1:DevS),(flL (((p+m-1)/64-p/64+1)-i) (p/64+i) s1=flL ((p+m-1)/64-p/64+1) (p/64) s16)/\ (s1.ls.length=s.ls.length)/\ S=R*Dev d s1*pt b2 (cl [pz bl] 75)*pt b3 (cl [vn p,.slice a m c] 210)*pt b4 (cl [.int .i64 0] 43)) (λ j S=>∃ (e:Int) (s1:DevS),j= .ret/\ (flL ((p+m-1)/64-p/64+1) (p/64) s16=(e,s1))/\ S=R*Dev d s1*pt b2 (cl [pz bl] 75)*pt b3 (cl [vn p,.slice a m c] 210)*pt b4 (cl [.int .i64 e] 43)) rfl bd220 (Lines_it (N:=((p+m-1)/64-p/64+1)) h1 oqz rfl) (λ _=>rfl) rfl (Dr.sat (by repeat (first|with_reducible exact dr_refl|apply dr_keep|apply dr_drop))) (⟨s16,rfl,hsl,rfl⟩) ?_ ?_ ?_
  . intro l F i S hi hI;obtain ⟨s1,hi0,hi1,rfl⟩:=hI;refine tc_eq (by simp only [←star_assoc];rfl) ?_;refine tc_env (d:=26) (v:=(vn (p/64+i))) (rfl) ?_;refine tc_reg ?_;refine tla ?_;refine tl_nil ?_;refine ⟨R*Dev d s1*pt b2 (cl [pz bl] 75)*pt b3 (cl [vn p,.slice a m c] 210)*pt b4 (cl [.int .i64 0] 43),λ g w h=>by simp only [←star_assoc];exact Dr.sat (by repeat (first|with_reducible exact dr_refl|apply dr_keep|apply dr_drop)) g w h,λ F=> ?_⟩;refine tc_eq (by simp only [←star_assoc];rfl) ?_;refine tc_block ?_;refine Ych ?_;refine Yg5 ?_;refine tl_v rfl (o_load p28 rfl (by repeat (first|assumption|exact has_rt (by assumption)|apply has_left)) rfl) ?_;refine tlm ?_;refine tl_v rfl (by first|exact o_mulI rfl rfl oqz|exact o_mul rfl rfl) ?_;refine tl_env (d:=32) (v:= .int .i64 (((p/64+i)*64:Nat):Int)) (rfl) ?_;refine tl_c rfl (o_call bd155 rfl (Flush_c (s:=s1) (p:=(((p/64+i)*64:Nat):Int)))) ?_;rintro _ _ ⟨e33,s33,hs33,rfl,rfl⟩;refine Yfx ?_;refine Yer ?_;refine Y6 ?_;refine tc_cond rfl (λ h=> ?_) (λ h=> ?_)
    . have h:e33≠0:=(by simpa using h);refine Yc8 ?_;refine Yfi ?_;refine q_block_r ?_;exact ⟨R*Dev d (s33)*pt b2 (cl [pz bl] 75)*pt b3 (cl [vn p,.slice a m c] 210)*pt b4 (cl [.int .i64 (e33)] 43),λ g w h=>by simp only [←star_assoc];exact Dr.sat (by repeat (first|with_reducible exact dr_refl|apply dr_keep|apply dr_drop)) g w h,e33,s33,rfl,by rw [←hi0];exact flL_e hi hs33 h,rfl⟩
    obtain rfl:e33=0:=by simpa using h
    refine tc_skip ?_;refine q_block_n ?_;exact ⟨R*Dev d (s33)*pt b2 (cl [pz bl] 75)*pt b3 (cl [vn p,.slice a m c] 210)*pt b4 (cl [.int .i64 0] 43),λ g w h=>by simp only [←star_assoc];exact Dr.sat (by repeat (first|with_reducible exact dr_refl|apply dr_keep|apply dr_drop)) g w h,s33,by rw [←hi0];exact (flL_o hi hs33).symm,by have:=fl1_len (((p/64+i)*64:Nat):Int) s1;rw [hs33] at this;exact this.trans hi1,rfl⟩
  . intro r S hI;obtain ⟨s1,hi0,hi1,rfl⟩:=hI;refine q_block_n (q_then_n ?_);refine Y5 ?_;refine Yfi ?_;exact ⟨[r],_,rfl,λ _ _ h=>mk1 h,.int .i64 0,C (Dev d s1),resA1 rfl (rv_cell1 p43 rfl (by repeat (first|with_reducible exact has_here|with_reducible exact has_pt|apply has_left)) rfl),λ _ _ h=>by rw [hC];exact (Dr.sat (A':=R*Dev d s1) (by repeat (first|with_reducible exact dr_refl|apply dr_keep|apply dr_drop))) _ _ h,0,s1,by unfold backS flushX;simp only [];rw [hs16,if_neg (by simp)];simp only [hm];rw [←hi0,Nat.sub_self];rfl,rfl,rfl⟩
  intro r j S hX;obtain ⟨e,s1,rfl,hx0,rfl⟩:=hX;refine jmp_r ?_;refine q_block_r (q_then_r ?_);exact ⟨[r],_,rfl,λ _ _ h=>mk1 h,.int .i64 e,C (Dev d s1),resA1 rfl (rv_cell1 p43 rfl (by repeat (first|with_reducible exact has_here|with_reducible exact has_pt|apply has_left)) rfl),λ _ _ h=>by rw [hC];exact (Dr.sat (A':=R*Dev d s1) (by repeat (first|with_reducible exact dr_refl|apply dr_keep|apply dr_drop))) _ _ h,e,s1,by unfold backS flushX;simp only [];rw [hs16,if_neg (by simp)];simp only [hm];exact hx0,rfl,rfl⟩
end Rg
end Go.Vl

namespace Go.Vl
open Go Go.Proofs Go.Proofs.Tryz
def rvl (L:List (Nat×List Nat))(vs:List Value)(k:Nat):Value:= .agg #[.int .i64 ((L.getD k (0,[])).1:Nat),vs.getD k (.slice none 0 0)]
theorem kcl_at:∀{L:List (Nat×List Nat)} {vs:List Value} {k:Nat},vs.length=L.length->k<L.length->((kcl L vs).drop (k*2)).take 2=[.int .i64 ((L.getD k (0,[])).1:Nat),vs.getD k (.slice none 0 0)]
  |[],[],_,_,h=>by simp at h
  |x::l,v::vs,0,_,_=>rfl
  |x::l,v::vs,k+1,h,hk=>by
    rw [show (k+1)*2=k*2+1+1 by omega]
    show ((kcl l vs).drop (k*2)).take 2=_
    rw [kcl_at (by simpa using h) (by simpa using hk)];rfl
attribute [local irreducible] crk crL crc Sl pt ro Dev imgS recS readS recsF rdW rdO rkT Parts
namespace Rg
theorem bwd1_f {a:Option Addr}{c l N q1:Nat}{L:List (Nat×List Nat)}{vs:List Value}{J:Nat->SP->Prop}{X:SP->Prop}{S0:SP}(hL:L.length=N)(hv:vs.length=N)(h2:N<=1099511627776)(h0:J 0 S0)(hY:∀F i S,i<N->J i S->Yd Tryz.prog l #[vn (N-1-i),rvl L vs (N-1-i)] (F*S) (λ v B=>∃ (b:Bool) (S':SP),v= .bool b/\ (b=true->J (i+1) S')/\ (b=false->X S')/\ B=F*S')):
    Fn Tryz.prog 193 #[.func (.yield l) #[] #[],pz q1] (S0*pt q1 (cl [.slice a N c] 184)*Sl 2 (.slice a N c) N (kcl L vs)) (λ r B=>r= .tuple #[]/\ ((∃S,J N S/\ B=S*pt q1 (cl [.slice a N c] 184)*Sl 2 (.slice a N c) N (kcl L vs))∨∃S,X S/\ B=S*pt q1 (cl [.slice a N c] 184)*Sl 2 (.slice a N c) N (kcl L vs))):=by
  refine fn_enterW func193 rfl ntmps193 (by simp) ?_;refine Y5 ?_;refine tl_v rfl (by first|exact o_load p184 rfl (by repeat (first|with_reducible exact has_here|with_reducible exact has_pt|apply has_left)) rfl|exact o_loadC p184 rfl (by assumption)) ?_;refine tl_v rfl (o_len underlying184 rfl) ?_;refine tl_v rfl (o_subI rfl rfl oqz) ?_;refine tl_env (d:=6) (v:= .int .i64 ((N:Nat)-1-((0:Nat):Int))) (by show Value.int .i64 ((N:Int)-1)=_;congr 1;omega) ?_;refine Yfx ?_;refine tc_block ?_;refine tc_loop (λ kk ρ BB=>∃ (k:Nat) (S:SP),(k<=N)/\ (J k S)/\ kk=N-k/\ ρ 3= .int .i64 ((N:Nat)-1-(k:Nat))/\ ρ 19=undef/\ ρ 0= .func (.yield l) #[] #[]/\ ρ 1=(pz q1)/\ BB=S*pt q1 (cl [.slice a N c] 184)*Sl 2 (.slice a N c) N (kcl L vs)) (m:=N-(0)) ?_ ?_
  . exact ⟨0,S0,by omega,h0,rfl,rfl,rfl,rfl,rfl,rfl⟩
  intro k ρ B hI;obtain ⟨k,S,hp0,hp1,hkk1,hE3,hE19,hE0,hE1,rfl⟩:=hI;refine tc_env (d:=3) hE3 ?_;refine tc_env (d:=19) hE19 ?_;refine tc_env (d:=0) hE0 ?_;refine tc_env (d:=1) hE1 ?_;refine tc_seq ?_;refine Yc8 ?_;refine tl_v rfl (o_geq rfl rfl) ?_;refine Y6 ?_;refine tc_cond rfl (λ h=> ?_) (λ h=> ?_)
  . have hk:k<N:=(by first|omega|(simp at h;omega));refine Yed ?_;refine tc_seq ?_;refine tc_block ?_;refine Yc8 ?_;refine tlm ?_;refine tl_env (d:=12) (v:=(vn (N-1-k))) (by show Value.int .i64 ((N:Int)-1-(k:Int))=_;congr 1;omega) ?_;refine tl_v rfl (by first|exact o_load p184 rfl (by repeat (first|with_reducible exact has_here|with_reducible exact has_pt|apply has_left)) rfl|exact o_loadC p184 rfl (by assumption)) ?_;refine tlm ?_;refine tl_env (d:=14) (v:=(vn (N-1-k))) (by show Value.int .i64 ((N:Int)-1-(k:Int))=_;congr 1;omega) ?_;refine tl_v rfl (o_ixP (a:=a) underlying184 sz210 rfl rfl oqz (nn_sl (by decide))) ?_;refine tl_v rfl (o_ldPN (a:=a) (xs:=kcl L vs) (vs:=[.int .i64 ((L.getD (N-1-k) (0,[])).1:Nat),vs.getD (N-1-k) (.slice none 0 0)]) a210 sz210 rfl rs_sl (kcl_at oqz oqz) rfl (by decide)) ?_;refine tl_y rfl rfl rfl (yd_b (F:=(pt q1 (cl [.slice a N c] 184)*Sl 2 (.slice a N c) N (kcl L vs))) (G:=λ S'=>S'*pt q1 (cl [.slice a N c] 184)*Sl 2 (.slice a N c) N (kcl L vs)) (hY _ k S oqz hp1) (by ac_rfl) (λ S'=>by ac_rfl)) ?_;rintro _ _ ⟨b17,S2,rfl,hT,hF,rfl⟩;refine tl_v rfl (o_not rfl) ?_;refine Y6 ?_;refine tc_cond rfl (λ h=> ?_) (λ h=> ?_)
    . have hb:b17=false:=(by simpa using h);subst hb;refine tc_ret ?_;refine q_block_r (q_then_r (q_then_r (q_block_r ?_)));exact ⟨[],_,rfl,λ _ _ h=>mk0 h,.tuple #[],S2*pt q1 (cl [.slice a N c] 184)*Sl 2 (.slice a N c) N (kcl L vs),res0 rfl,λ _ _ h=>h,rfl,.inr ⟨S2,hF rfl,rfl⟩⟩
    have hb:b17=true:=(by simpa using h);subst hb;refine tc_skip ?_;refine q_block_n (q_then_n ?_);refine tc_reg ?_;refine tlm ?_;refine tl_v rfl (o_subI rfl rfl oqz) ?_;refine tl_env (d:=10) (v:= .int .i64 ((N:Nat)-1-((k+1:Nat):Int))) (by show Value.int .i64 ((N:Int)-1-(k:Int)-1)=_;congr 1;omega) ?_;refine Yfx ?_;exact ⟨_,by omega,k+1,_,by omega,hT rfl,rfl,rfl,rfl,rfl,rfl,rfl⟩
  have hk:¬k<N:=(by first|omega|(simp at h;omega));refine tc_exit ?_;refine q_then_e (q_then_e (q_block_x ?_));obtain rfl:N=k:=by omega
  exact ⟨[],_,rfl,λ _ _ h=>mk0 h,.tuple #[],S*pt q1 (cl [.slice a N c] 184)*Sl 2 (.slice a N c) N (kcl L vs),res0 rfl,λ _ _ h=>h,rfl,.inl ⟨S,hp1,rfl⟩⟩
end Rg
theorem bwd_it {a:Option Addr}{c N q1:Nat}{L:List (Nat×List Nat)}{vs:List Value}(hL:L.length=N)(hv:vs.length=N)(h2:N<=1099511627776):
    Rg.It Tryz.prog 193 [] [pz q1] (pt q1 (cl [.slice a N c] 184)*Sl 2 (.slice a N c) N (kcl L vs)) N (λ i=>[vn (N-1-i),rvl L vs (N-1-i)]):=λ l J X S0 h0 hY=>by
  have hk:∀S:SP,S*(pt q1 (cl [.slice a N c] 184)*Sl 2 (.slice a N c) N (kcl L vs))=S*pt q1 (cl [.slice a N c] 184)*Sl 2 (.slice a N c) N (kcl L vs):=λ S=>(star_assoc _ _ _).symm
  rw [hk S0]
  refine (Rg.bwd1_f (J:=J) (X:=X) hL hv h2 h0 hY).mono ?_;rintro v B ⟨rfl,⟨S,hS,rfl⟩|⟨S,hS,rfl⟩⟩
  . exact ⟨rfl,.inl ⟨S,hS,(hk S).symm⟩⟩
  exact ⟨rfl,.inr ⟨S,hS,(hk S).symm⟩⟩
theorem bwd_c {A:SP}{a:Option Addr}{c N:Nat}:
    Fn Tryz.prog 168 #[.slice a N c] A (λ r B=>∃q1,r= .func (.func 193) #[] #[pz q1]/\ B=A*pt q1 (cl [.slice a N c] 184)):=by
  refine fn_enterW func168 rfl ntmps168 (by simp) ?_;refine Zcc ?_;rintro _ _ ⟨b1,rfl,rfl⟩;refine Za ?_;refine sr ?_;refine tv (o_makeFunc rfl rfl) ?_;refine Zf ?_;exact ⟨_,_,res1 rfl rfl,λ _ _ h=>h,b1,rfl,rfl⟩
end Go.Vl

namespace Go.Vl
open Go Go.Proofs Go.Proofs.Tryz
section
variable {at_ sz:Nat} {s s1 s2 s3:DevS} {L:List (Nat×List Nat)} {e:Int}
theorem roll_no (h:recordsS at_ sz s=(L,e))(h2:e≠0∨L=[]):rollS at_ sz s=((0,e),s):=by unfold rollS;rw [h,if_pos h2]
theorem roll_b (h:recordsS at_ sz s=(L,0))(h2:L≠[])(h3:backF L.reverse s=(e,s2))(he:e≠0):rollS at_ sz s=((0,e),s2):=by
  unfold rollS;rw [h,if_neg (by simp [h2])];simp only [];rw [h3,if_pos he]
theorem roll_f (h:recordsS at_ sz s=(L,0))(h2:L≠[])(h3:backF L.reverse s=(0,s1))(h4:fe s1=(e,s2))(he:e≠0):rollS at_ sz s=((0,e),s2):=by
  unfold rollS;rw [h,if_neg (by simp [h2])];simp only [];rw [h3,if_neg (by simp)];simp only [];rw [h4,if_pos he]
theorem roll_p (h:recordsS at_ sz s=(L,0))(h2:L≠[])(h3:backF L.reverse s=(0,s1))(h4:fe s1=(0,s2))(h5:pubP (at_:Nat) 0 s2=(e,s3))(he:e≠0):rollS at_ sz s=((0,e),s3):=by
  unfold rollS;rw [h,if_neg (by simp [h2])];simp only [];rw [h3,if_neg (by simp)];simp only [];rw [h4,if_neg (by simp)];simp only [];rw [h5,if_pos he]
theorem roll_o (h:recordsS at_ sz s=(L,0))(h2:L≠[])(h3:backF L.reverse s=(0,s1))(h4:fe s1=(0,s2))(h5:pubP (at_:Nat) 0 s2=(0,s3)):rollS at_ sz s=((((L.length:Nat):Int),0),s3):=by
  unfold rollS;rw [h,if_neg (by simp [h2])];simp only [];rw [h3,if_neg (by simp)];simp only [];rw [h4,if_neg (by simp)];simp only [];rw [h5,if_neg (by simp)]
end
def sumL (L:List (Nat×List Nat)):Nat:=(L.map λ x=>x.2.length).sum
theorem sumL_cons (x:Nat×List Nat)(L:List (Nat×List Nat)):sumL (x::L)=x.2.length+sumL L:=by unfold sumL;rw [List.map_cons,List.sum_cons]
theorem sumL_rev (L:List (Nat×List Nat)):sumL L.reverse=sumL L:=by unfold sumL;rw [List.map_reverse,List.sum_reverse]
def RecOk (n at_ sz:Nat)(x:Nat×List Nat):Prop:=mayX n at_ sz ((x.1:Int),((x.2.length:Nat):Int))=true/\∀b∈x.2,b<256
theorem read_ok {n at_ sz p:Nat}{room:List Nat}{x:Nat×List Nat}{t:Nat}(hb:∀b∈room,b<256)(h:readS n at_ sz room p=some (x,t)):RecOk n at_ sz x/\ p+t<=room.length/\ 24+x.2.length<=t:=by
  unfold readS at h
  split at h;cases h
  split at h;cases h
  rename_i h2
  split at h;cases h
  rename_i h3
  split at h;cases h
  simp only [Option.some.injEq,Prod.mk.injEq] at h
  obtain ⟨rfl,rfl⟩:=h;have hu:=up8_le (nm ((room.drop (p+8)).take 8));have hl:((room.drop (p+24)).take (nm ((room.drop (p+8)).take 8))).length=nm ((room.drop (p+8)).take 8):=(by rw [List.length_take,List.length_drop];omega);refine ⟨⟨?_,λ b hb'=>hb b (List.mem_of_mem_drop (List.mem_of_mem_take hb'))⟩,by omega,by rw [hl];omega⟩
  show mayX n at_ sz (_,((List.length _:Nat):Int))=true
  rw [hl];simpa using h2
theorem recsF_ok {n at_ sz:Nat}{room:List Nat}(hb:∀b∈room,b<256):∀{k p:Nat} {L:List (Nat×List Nat)},p<=room.length->recsF n at_ sz room k p=(L,0)->(∀x∈L,RecOk n at_ sz x)/\ sumL L+24*L.length+p<=room.length
  |0,p,L,hp,h=>by
    simp only [recsF,Prod.mk.injEq] at h
    obtain ⟨rfl,_⟩:=h;exact ⟨by simp,by simp [sumL];exact hp⟩
  |k+1,p,L,hp,h=>by
    have e:recsF n at_ sz room (k+1) p=match readS n at_ sz room p with
      |none=>([],110)
      |some (x,t)=>if (recsF n at_ sz room k (p+t)).2≠0 then ([],110) else (x::(recsF n at_ sz room k (p+t)).1,0):=rfl
    rw [e] at h
    cases hr:readS n at_ sz room p with
    |none=>rw [hr] at h;simp at h
    |some y=>
      rw [hr] at h
      simp only at h
      obtain ⟨h1,h2,h3⟩:=read_ok hb (x:=y.1) (t:=y.2) hr
      by_cases h4:(recsF n at_ sz room k (p+y.2)).2≠0
      . rw [if_pos h4] at h;simp at h
      rw [if_neg h4] at h
      simp only [Prod.mk.injEq,and_true] at h
      obtain ⟨g1,g2⟩:=recsF_ok hb (L:=(recsF n at_ sz room k (p+y.2)).1) h2 (Prod.ext rfl (by simp only;omega));subst h;refine ⟨λ x hx=> ?_,by rw [sumL_cons,List.length_cons];omega⟩
      rcases List.mem_cons.1 hx with rfl|hx
      . exact h1
      exact g1 x hx
theorem records_ok {at_ sz:Nat}{s:DevS}{L:List (Nat×List Nat)}(hw:WfD s)(hlw:LogW (s.ls.length*64) at_ sz)(h:recordsS at_ sz s=(L,0)):(∀x∈L,RecOk (s.ls.length*64) at_ sz x)/\ sumL L+24*L.length<=sz-64:=by
  unfold recordsS at h
  split at h;cases h
  have hl:(roomS at_ sz s).length=sz-64:=by
    have:=imgS_len hw;have:=hlw.top;have:=hlw.s
    unfold roomS;rw [List.length_take,List.length_drop];omega
  obtain ⟨h1,h2⟩:=recsF_ok (λ b hb=>img_sub b hb) (Nat.zero_le _) h;have hl2:(((imgS s).drop (at_+64)).take (sz-64)).length=sz-64:=hl;exact ⟨h1,by omega⟩
theorem backF_e {x:Nat×List Nat}{l:List (Nat×List Nat)}{s s2:DevS}{e:Int}(h:backS x s=(e,s2))(he:e≠0):backF (x::l) s=(e,s2):=by
  show (if (backS x s).1≠0 then backS x s else _)=_
  rw [h,if_pos he]
theorem backF_o {x:Nat×List Nat}{l:List (Nat×List Nat)}{s s2:DevS}(h:backS x s=(0,s2)):backF (x::l) s=backF l s2:=by
  show (if (backS x s).1≠0 then backS x s else backF l (backS x s).2)=_
  rw [h,if_neg (by simp)]
theorem rev_at {L:List (Nat×List Nat)}{i:Nat}(h:i<L.length):L.reverse.drop i=L.getD (L.length-1-i) (0,[])::L.reverse.drop (i+1):=by
  have h':i<L.reverse.length:=(by rw [List.length_reverse];exact h);rw [List.drop_eq_getElem_cons h',List.getElem_reverse,List.getD_eq_getElem?_getD,List.getElem?_eq_getElem oqz];rfl
theorem parts_rs:∀{vs:List Value} {ls:List (List Nat)} {k:Nat} (_:vs.length=ls.length) (h:k<ls.length) {b:Option Addr} {c:Nat},vs.getD k (.slice none 0 0)= .slice b (ls[k]).length c->∀A:SP,Rs (A*Parts vs ls) b (bys ls[k])
  |v::vs,x::ls,0,_,_,b,c,he,A=>by
    have e:Parts (v::vs) (x::ls)=Parts vs ls*Sl 1 v x.length (bys x):=rfl;have e2:v= .slice b x.length c:=he;rw [e,e2,←star_assoc];exact rs_sl
  |v::vs,x::ls,k+1,h,hk,b,c,he,A=>by
    have e:Parts (v::vs) (x::ls)=Parts vs ls*Sl 1 v x.length (bys x):=rfl;rw [e,←star_assoc]
    exact (parts_rs (vs:=vs) (ls:=ls) (k:=k) (by simpa using h) (by simpa using hk) he A).left
  |[],x::ls,_,h,_,_,_,_,_=>by simp at h
  |_,[],_,_,h,_,_,_,_=>by simp at h
theorem parts_getD:∀{vs:List Value} {L:List (Nat×List Nat)} {X:SP} {g:Gh} {w:World},vs.length=L.length->sat g w (X*Parts vs (L.map (·.2)))->∀k,k<L.length->∃b c,vs.getD k (.slice none 0 0)= .slice b (L.getD k (0,[])).2.length c/\ (L.getD k (0,[])).2.length<=c
  |[],[],_,_,_,_,_=>λ k hk=>by simp at hk
  |v::vs,x::L,X,g,w,hl,h=>by
    have e:Parts (v::vs) ((x::L).map (·.2))=Parts vs (L.map (·.2))*Sl 1 v x.2.length (bys x.2):=rfl;rw [e,←star_assoc] at h
    intro k hk
    cases k with
    |zero=>
      obtain ⟨a,cap,h1,h2,_⟩:=sl_have h;exact ⟨a,cap,h1,h2⟩
    |succ k=>exact parts_getD (by simpa using hl) h.left k (by simpa using hk)
theorem parts_rsL {vs:List Value}{L:List (Nat×List Nat)}{k:Nat}(h:vs.length=L.length)(hk:k<L.length){b:Option Addr}{c:Nat}(he:vs.getD k (.slice none 0 0)= .slice b (L.getD k (0,[])).2.length c)(A:SP):Rs (A*Parts vs (L.map (·.2))) b (bys (L.getD k (0,[])).2):=by
  have e1:L.getD k (0,[])=L[k]:=(by rw [List.getD_eq_getElem?_getD,List.getElem?_eq_getElem hk];rfl);have e2:(L.map (·.2))[k]'(by rw [List.length_map];exact hk)=L[k].2:=(by rw [List.getElem_map]);rw [e1] at he ⊢
  rw [←e2] at he ⊢
  exact parts_rs (by rw [List.length_map];exact h) (by rw [List.length_map];exact hk) he A
theorem getD_mem {L:List (Nat×List Nat)}{k:Nat}(hk:k<L.length):L.getD k (0,[])∈L:=by
  rw [List.getD_eq_getElem?_getD,List.getElem?_eq_getElem hk];exact List.getElem_mem hk
theorem fl1_wf {p:Int}{s:DevS}(hw:WfD s):WfD (fl1 p s).2:=by
  unfold fl1
  split
  . exact hw
  exact doneS_wf (flushS_wf hw)
theorem sto_wf {p:Int}{b:List Nat}{s:DevS}(hw:WfD s)(hb:∀x∈b,x<256)(hr:Room b.length s):WfD (sto p b s).2:=by
  unfold sto
  split
  . exact hw
  exact (storeF_room b.length (r:=0) rfl hw hb (λ l hl=>by have:=hr l hl;omega)).2
theorem flL_wf:∀ (k:Nat) {q:Nat} {s:DevS},WfD s->WfD (flL k q s).2
  |0,_,_,h=>h
  |k+1,q,s,hw=>by
    show WfD (if (fl1 ((q*64:Nat):Int) s).1≠0 then fl1 ((q*64:Nat):Int) s else flL k (q+1) (fl1 ((q*64:Nat):Int) s).2).2
    split
    . exact fl1_wf hw
    exact flL_wf k (fl1_wf hw)
theorem flL_room:∀ (k:Nat) {q r:Nat} {s:DevS},WfD s->Room r s->Room r (flL k q s).2
  |0,_,_,_,_,h=>h
  |k+1,q,r,s,hw,h=>by
    show Room r (if (fl1 ((q*64:Nat):Int) s).1≠0 then fl1 ((q*64:Nat):Int) s else flL k (q+1) (fl1 ((q*64:Nat):Int) s).2).2
    have h1:=fl1_room (s2:=(fl1 ((q*64:Nat):Int) s).2) rfl hw h
    split
    . exact h1
    exact flL_room k (fl1_wf hw) h1
theorem back_room {x:Nat×List Nat}{r:Nat}{s s2:DevS}{e:Int}(h:backS x s=(e,s2))(hw:WfD s)(hb:∀b∈x.2,b<256)(hr:Room (r+x.2.length) s):Room r s2:=by
  have hws:WfD (sto (x.1:Nat) x.2 s).2:=sto_wf hw hb λ l hl=>by have:=hr l hl;omega
  have h1:=sto_room (e:=(sto (x.1:Nat) x.2 s).1) (s2:=(sto (x.1:Nat) x.2 s).2) rfl hw hb hr
  unfold backS at h
  split at h
  . have:=congrArg Prod.snd h;simp only at this;rw [←this];exact h1
  have h2:=flL_room ((x.1+x.2.length-1)/64-x.1/64+1) (q:=x.1/64) hws h1;have:=congrArg Prod.snd h;simp only at this;rw [←this];exact h2
theorem flL_len:∀ (k q:Nat) (s:DevS),(flL k q s).2.ls.length=s.ls.length
  |0,_,_=>rfl
  |k+1,q,s=>by
    show (if (fl1 ((q*64:Nat):Int) s).1≠0 then fl1 ((q*64:Nat):Int) s else flL k (q+1) (fl1 ((q*64:Nat):Int) s).2).2.ls.length=_
    split
    . exact fl1_len _ _
    rw [flL_len k];exact fl1_len _ _
theorem back_len (x:Nat×List Nat)(s:DevS):(backS x s).2.ls.length=s.ls.length:=by
  unfold backS
  split
  . exact sto_len _ _ _
  unfold flushX;rw [flL_len];exact sto_len _ _ _
theorem Records_w {A R:SP}{C:SP->SP}{d:Nat}{s:DevS}(hc:Ct A (Dev d s) R C:=by exact cbqz){bl at_ sz:Nat}(hl:Has R bl (cl (lcs11 d at_ sz) 183):=by exact hbqz)(hlw:LogW (s.ls.length*64) at_ sz:=by assumption){L:List (Nat×List Nat)}{e:Int}(hX:recordsS at_ sz s=(L,e)):Fn Tryz.prog 138 #[pz bl] A (λ r B=>∃a2 c2 vs,r= .tuple #[.slice a2 L.length c2,.int .i64 e]/\ L.length<=c2/\ vs.length=L.length/\ B=C (Dev d s)*Parts vs (L.map (·.2))*Sl 2 (.slice a2 L.length c2) L.length (kcl L vs)):=by
  have h:=Records_c hc hl hlw;rw [hX] at h
  exact h
attribute [local irreducible] crk crL crc Sl pt ro Dev imgS recS readS recsF rdW rdO rkT Parts rvl recordsS
namespace Rg
theorem Yd5 {p r:Prop}(k:r)(h:Kq r->p:=by intro k;refine oh_v rfl rfl rfl (by first|exact o_load p75 rfl (by repeat (first|with_reducible exact has_here|with_reducible exact has_pt|apply has_left)) rfl|exact o_loadC p75 rfl (by assumption)) ?_;refine th_take (i:=5) rfl kqz kqz kqz rfl rfl (o_nilCheck rfl) ?_;refine th_take (i:=6) rfl kqz kqz kqz rfl rfl (o_fieldAddr (o:=1) underlying183 rfl rfl sz3 rfl) ?_;exact k.o):p:=h ⟨k⟩
theorem Ydu {p r:Prop}(k:r)(h:Kq r->p:=by intro k;refine th_one (i:=7) kqz ?_;refine oh_v rfl rfl rfl (o_load p3 rfl (by repeat (first|assumption|apply has_left)) rfl) ?_;exact k.o):p:=h ⟨k⟩
theorem Yg8 {p r:Prop}(k:r)(h:Kq r->p:=by intro k;refine oh_v rfl rfl rfl (o_load p28 rfl (by repeat (first|assumption|apply has_left)) rfl) ?_;refine Ydu ?_;exact k.o):p:=h ⟨k⟩
theorem Yhb {p r:Prop}(k:r)(h:Kq r->p:=by intro k;refine oh_v rfl rfl rfl (o_load p3 rfl (by repeat (first|assumption|apply has_left)) rfl) ?_;refine Ydm ?_;exact k.o):p:=h ⟨k⟩
theorem Rollback_c {A R:SP}{C:SP->SP}{d:Nat}{s:DevS}(hc:Ct A (Dev d s) R C:=by repeat (first|with_reducible exact ct_here|apply ct_left)){bl at_ sz:Nat}(hl:Has R bl (cl (lcs11 d at_ sz) 183):=by (repeat (first|assumption|with_reducible exact has_here|with_reducible exact has_pt|apply has_left)))(hlw:LogW (s.ls.length*64) at_ sz:=by assumption)(hroom:Room (sz+1) s:=by assumption):
    Fn Tryz.prog 139 #[pz bl] A (λ r B=>∃e k s2,rollS at_ sz s=((k,e),s2)/\ r= .tuple #[.int .i64 k,.int .i64 e]/\ B=C (Dev d s2)):=by
  refine fn_enterW func139 rfl ntmps139 (by simp) ?_;refine tc_have (λ _ _ h=>ct_wf2 hc h) λ hw=> ?_
  have htop:=hw.top;have hpos:=hw.pos;obtain ⟨rfl,hC⟩:=hc;have hAC:∀g w,sat g w (R*Dev d s)->sat g w (C (Dev d s)):=λ g w h=>by rw [hC];exact h
  have hlw9:=hlw;obtain ⟨w1,w2,w3,w4,w5⟩:=hlw9;obtain ⟨L,e0,hL⟩:∃L e0,recordsS at_ sz s=(L,e0):=⟨_,_,rfl⟩;refine Y5 ?_;refine tl_x rfl (o_box rfl rfl) ?_;rintro _ _ ⟨b1,rfl,rfl⟩;refine tl_x rfl (o_alloc z3 rfl) ?_;rintro _ _ ⟨b2,rfl,rfl⟩;refine tl_x rfl (o_alloc z43 rfl) ?_;rintro _ _ ⟨b3,rfl,rfl⟩;refine Y6 ?_;refine Ych ?_;refine tl_c rfl (o_call bd138 rfl (Records_w (s:=s) (hX:=hL))) ?_;rintro _ _ ⟨a13,c13,vs,rfl,hc13,hvs,rfl⟩;refine tl_have (λ _ _ h=>parts_getD hvs h.left) λ hps=> ?_
  refine tlm ?_;refine tl_v rfl (o_extract rfl rfl) ?_;refine tl_v rfl (o_extract rfl rfl) ?_;refine tla ?_;refine Yfx ?_;refine tc_seq ?_;refine Yer ?_;refine tlm ?_;refine tl_bool (d:=18) rfl (λ h=> ?_) (λ h=> ?_)
  . have g18:(e0≠0):=(by first|exact of_decide_eq_true h|(have h2:=h;simp at h2;omega)|simpa using h);refine tl_skip rfl ?_;refine tl_skip rfl ?_;refine tl_skip rfl ?_;refine tl_v rfl (o_pick_t rfl wqz) ?_;refine Y6 ?_;refine tc_cond_t rfl ?_;refine Y5 ?_;refine Yx ?_;refine Yfi ?_;refine q_then_r ?_;exact ⟨[],_,rfl,λ _ _ h=>mk0 h,.tuple #[.int .i64 0,.int .i64 e0],C (Dev d s),resA2 rfl (rv_cell1 p3 rfl (by repeat (first|with_reducible exact has_here|with_reducible exact has_pt|apply has_left)) rfl) (rv_cell1 p43 rfl (by repeat (first|with_reducible exact has_here|with_reducible exact has_pt|apply has_left)) rfl),λ _ _ h=>by rw [hC];exact (Dr.sat (A':=R*Dev d s) (by repeat (first|with_reducible exact dr_refl|apply dr_keep|apply dr_drop))) _ _ h,e0,0,s,roll_no hL (by first|exact hor|exact .inl (by assumption)),rfl,rfl⟩
  have g18:¬(e0≠0):=(by first|exact of_decide_eq_false h|(have h2:=h;simp at h2;omega)|simpa using h);refine tlm ?_;refine tl_v rfl (o_len underlying184 rfl) ?_;refine tl_v rfl (o_eqi rfl rfl) ?_;refine tl_v rfl (o_pick_f rfl wqz) ?_;refine Y6 ?_;refine tc_cond rfl (λ h=> ?_) (λ h=> ?_)
  . have hor:e0≠0∨L=[]:=(by first|exact .inl (by assumption)|exact .inr (List.eq_nil_of_length_eq_zero (by first|(have:=of_decide_eq_true h;omega)|(simp at h;omega))));refine Y5 ?_;refine Yx ?_;refine Yfi ?_;refine q_then_r ?_;exact ⟨[],_,rfl,λ _ _ h=>mk0 h,.tuple #[.int .i64 0,.int .i64 e0],C (Dev d s),resA2 rfl (rv_cell1 p3 rfl (by repeat (first|with_reducible exact has_here|with_reducible exact has_pt|apply has_left)) rfl) (rv_cell1 p43 rfl (by repeat (first|with_reducible exact has_here|with_reducible exact has_pt|apply has_left)) rfl),λ _ _ h=>by rw [hC];exact (Dr.sat (A':=R*Dev d s) (by repeat (first|with_reducible exact dr_refl|apply dr_keep|apply dr_drop))) _ _ h,e0,0,s,roll_no hL (by first|exact hor|exact .inl (by assumption)),rfl,rfl⟩
  obtain rfl:e0=0:=by omega
  have hne:L≠[]:=λ e9=>by subst e9;first|exact of_decide_eq_false h rfl|(simp at h)
  refine Yed ?_;refine tc_seq ?_;refine tc_seq ?_;obtain ⟨hrk,hrs⟩:=records_ok hw hlw hL;refine tc_reg ?_;refine tlm ?_;refine tl_c rfl (o_call bd168 rfl (bwd_c (N:=L.length))) ?_;rintro _ _ ⟨q1,rfl,rfl⟩;refine Y6 ?_;refine tc_block ?_;refine tc_rangeI (K:=(pt q1 (cl [.slice a13 L.length c13] 184)*Sl 2 (.slice a13 L.length c13) L.length (kcl L vs))) (N:=L.length) (A0:=R*Dev d s*Parts vs (L.map (·.2))*pt b1 (cl [pz bl] 75)*pt b2 (cl [.int .i64 0] 3)*pt b3 (cl [.int .i64 0] 43)) (λ i S=>∃ (s1:DevS),(backF (L.reverse.drop i) s1=backF L.reverse s)/\ (s1.ls.length=s.ls.length)/\ (Room (sumL (L.reverse.drop i)+1) s1)/\ S=R*Dev d s1*Parts vs (L.map (·.2))*pt b1 (cl [pz bl] 75)*pt b2 (cl [.int .i64 0] 3)*pt b3 (cl [.int .i64 0] 43)) (λ j S=>∃ (e:Int) (s1:DevS),j= .ret/\ (backF L.reverse s=(e,s1))/\ (e≠0)/\ S=R*Dev d s1*Parts vs (L.map (·.2))*pt b1 (cl [pz bl] 75)*pt b2 (cl [.int .i64 0] 3)*pt b3 (cl [.int .i64 e] 43)) rfl bd193 (bwd_it (L:=L) (vs:=vs) (a:=a13) (c:=c13) rfl hvs oqz) (λ _=>rfl) rfl (λ _ _ h=>h.perm (by ac_rfl)) (⟨s,rfl,rfl,λ l hl=>by have:=hroom l hl;rw [List.drop_zero,sumL_rev];omega,rfl⟩) ?_ ?_ ?_
  . intro l F i S hi hI;obtain ⟨s1,hi0,hi1,hi2,rfl⟩:=hI;refine tc_eq (by simp only [←star_assoc];rfl) ?_;have hkk:(L.length-1-i)<L.length:=(by omega);obtain ⟨xb,xc,hv27,hxc⟩:=hps _ hkk;have hprs:=parts_rsL hvs hkk hv27;have hdr:=rev_at hi;obtain ⟨hmx,hxb⟩:=hrk _ (getD_mem hkk);obtain ⟨zp,zm,hz,y1,y2,y3,y4⟩:=may_nat hmx
    simp only [Prod.mk.injEq,Int.ofNat_inj] at hz
    obtain ⟨hz1,hz2⟩:=hz;rw [hdr,sumL_cons] at hi2
    refine tc_have (λ _ _ h=>ct_wf2 (by repeat (first|with_reducible exact ct_here|apply ct_left)) h) λ hw1=> ?_
    refine tc_env (d:=26) (v:= .int .i64 (((L.length-1-i):Nat):Int)) (rfl) ?_;refine tc_env (d:=27) (v:= .agg #[.int .i64 ((((L.getD (L.length-1-i) (0,[])).1):Nat):Int),.slice xb ((L.getD (L.length-1-i) (0,[])).2).length xc]) (by show rvl L vs (L.length-1-i)=_;unfold rvl;rw [hv27]) ?_;refine tc_reg ?_;refine tl_x rfl (o_alloc z210 rfl) ?_;rintro _ _ ⟨b7,rfl,rfl⟩;refine tl_u rfl (o_stUN (l':=[.int .i64 ((((L.getD (L.length-1-i) (0,[])).1):Nat):Int),.slice xb ((L.getD (L.length-1-i) (0,[])).2).length xc]) rfl (by repeat (first|with_reducible exact upd_here|with_reducible exact upd_pt|apply upd_left)) sz210 rfl rfl rfl (by show 2<=2;decide) rfl) ?_;refine tl_nil ?_;refine ⟨R*Dev d s1*Parts vs (L.map (·.2))*pt b1 (cl [pz bl] 75)*pt b2 (cl [.int .i64 0] 3)*pt b3 (cl [.int .i64 0] 43)*pt b7 (cl [.int .i64 ((((L.getD (L.length-1-i) (0,[])).1):Nat):Int),.slice xb ((L.getD (L.length-1-i) (0,[])).2).length xc] 210),λ g w h=>by simp only [←star_assoc];exact Dr.sat (by repeat (first|with_reducible exact dr_refl|apply dr_keep|apply dr_drop)) g w h,λ F=> ?_⟩;refine tc_eq (by simp only [←star_assoc];rfl) ?_;refine tc_block ?_;refine Ych ?_;refine tl_v rfl (o_loadN (vs:=[.int .i64 ((((L.getD (L.length-1-i) (0,[])).1):Nat):Int),.slice xb ((L.getD (L.length-1-i) (0,[])).2).length xc]) a210 sz210 rfl (by repeat (first|with_reducible exact has_here|with_reducible exact has_pt|apply has_left)) (by show 2<=2;decide) rfl) ?_;refine tl_c rfl (o_call bd169 rfl (back_c (s:=s1) (p:=((L.getD (L.length-1-i) (0,[])).1)) (m:=((L.getD (L.length-1-i) (0,[])).2).length) (xs:=((L.getD (L.length-1-i) (0,[])).2)) (a:=xb) (c:=xc) (hl:=(by repeat (first|assumption|exact has_rt (by assumption)|apply has_left))) (hr:=by repeat (first|exact hprs _|apply Rs.left)) (hmc:=hxc) (hb:=hxb) (hroom:=λ l hl=>by have:=hi2 l hl;omega))) ?_;rintro _ _ ⟨e30,s30,hs30,rfl,rfl⟩;refine Yfx ?_;refine Yer ?_;refine Y6 ?_;refine tc_cond rfl (λ h=> ?_) (λ h=> ?_)
    . have he30:e30≠0:=(by simpa using h);refine Y5 ?_;refine Yx ?_;refine Yfi ?_;refine q_block_r ?_;exact ⟨R*Dev d (s30)*Parts vs (L.map (·.2))*pt b1 (cl [pz bl] 75)*pt b2 (cl [.int .i64 0] 3)*pt b3 (cl [.int .i64 (e30)] 43),λ g w h=>by simp only [←star_assoc];exact Dr.sat (by repeat (first|with_reducible exact dr_refl|apply dr_keep|apply dr_drop)) g w h,e30,s30,rfl,by rw [←hi0,hdr];exact backF_e hs30 he30,he30,rfl⟩
    obtain rfl:e30=0:=by simpa using h
    refine tc_skip ?_;refine q_block_n ?_;exact ⟨R*Dev d (s30)*Parts vs (L.map (·.2))*pt b1 (cl [pz bl] 75)*pt b2 (cl [.int .i64 0] 3)*pt b3 (cl [.int .i64 0] 43),λ g w h=>by simp only [←star_assoc];exact Dr.sat (by repeat (first|with_reducible exact dr_refl|apply dr_keep|apply dr_drop)) g w h,s30,by rw [←hi0,hdr];exact (backF_o hs30).symm,by have:=back_len (L.getD (L.length-1-i) (0,[])) s1;rw [show backS (L.getD (L.length-1-i) (0,[])) s1=(0,s30) from hs30] at this;exact this.trans hi1,back_room (x:=L.getD (L.length-1-i) (0,[])) hs30 hw1 hxb (λ l hl=>by have:=hi2 l hl;omega),rfl⟩
  . intro r S hI;obtain ⟨s1,hi0,hi1,hi2,rfl⟩:=hI;refine q_block_n (q_then_n ?_);refine tc_seq ?_;refine tc_seq ?_;have hbk:backF L.reverse s=(0,s1):=(by rw [←hi0,List.drop_eq_nil_of_le (by rw [List.length_reverse];exact Nat.le_refl _)];rfl);refine tc_have (λ _ _ h=>ct_wf2 (by repeat (first|with_reducible exact ct_here|apply ct_left)) h) λ hw1=> ?_
    have hr1:Room 1 s1:=λ l hl=>by have:=hi2 l hl;omega
    refine tc_reg ?_;refine tl_v rfl (by first|exact o_load p75 rfl (by repeat (first|with_reducible exact has_here|with_reducible exact has_pt|apply has_left)) rfl|exact o_loadC p75 rfl (by assumption)) ?_;refine Yg5 ?_;refine tl_v rfl (o_load p28 rfl (by repeat (first|assumption|apply has_left)) rfl) ?_;refine tl_c rfl (o_call bd120 rfl (Fence_c (s:=s1))) ?_;rintro _ _ ⟨e38,s38,hs38,rfl,rfl⟩;refine Yfx ?_;refine Yer ?_;refine Y6 ?_;refine tc_cond rfl (λ h=> ?_) (λ h=> ?_)
    . have he38:e38≠0:=(by simpa using h);refine Y5 ?_;refine Yx ?_;refine Yfi ?_;refine q_then_r ?_;exact ⟨[r],_,rfl,λ _ _ h=>mk1 h,.tuple #[.int .i64 0,.int .i64 e38],C (Dev d s38),resA2 rfl (rv_cell1 p3 rfl (by repeat (first|with_reducible exact has_here|with_reducible exact has_pt|apply has_left)) rfl) (rv_cell1 p43 rfl (by repeat (first|with_reducible exact has_here|with_reducible exact has_pt|apply has_left)) rfl),λ _ _ h=>by rw [hC];exact (Dr.sat (A':=R*Dev d s38) (by repeat (first|with_reducible exact dr_refl|apply dr_keep|apply dr_drop))) _ _ h,e38,0,s38,roll_f hL hne hbk hs38 he38,rfl,rfl⟩
    obtain rfl:e38=0:=by simpa using h
    have hr2:=fe_room hs38 hw1 hr1;refine Yed ?_;refine tc_seq ?_;refine tc_seq ?_;refine tc_cut (λ ρ BB=>∃ (e50:Int) (s50:DevS),(pubP (at_:Nat) 0 s38=(e50,s50))/\ ρ 10= .int .i64 e50/\ ρ 56=mkv [r]/\ ρ 2=(pz b2)/\ ρ 3=(pz b3)/\ ρ 4= .slice a13 L.length c13/\ Dr BB (R*Dev d s50*Parts vs (L.map (·.2))*pt b1 (cl [pz bl] 75)*pt b2 (cl [.int .i64 0] 3)*pt b3 (cl [.int .i64 0] 43)*pt r mkO)) ?_ ?_
    . skip
      refine tc_regh (S:=R) mo (by repeat (first|with_reducible exact dr_refl|apply dr_keep|apply dr_drop)) ?_
      show TH _ _ _ _ _ 10 (Array.replicate 10 false) _ _
      refine th_two (i:=0) (j:=4) kqz ?_ ?_
      . skip
        refine Y8 ?_;refine th_two (i:=3) (j:=4) kqz ?_ ?_
        . skip
          refine oh_v rfl rfl rfl (o_load p28 rfl (by repeat (first|assumption|apply has_left)) rfl) ?_;refine th_one (i:=4) kqz ?_;refine Yd5 ?_;refine Ydu ?_;refine th_one (i:=8) kqz ?_;refine oh_c rfl rfl rfl (o_call bd164 rfl (Publish_c (s:=s38) (p:=(at_:Nat)) (v:=0))) ?_;rintro _ _ ⟨e50,s50,hs50,rfl,rfl⟩;refine Ycb ?_;exact ⟨e50,s50,hs50,rfl,rfl,rfl,rfl,rfl,(by repeat (first|with_reducible exact dr_refl|apply dr_keep|apply dr_drop))⟩
        . skip
          refine Yd5 ?_;refine th_two (i:=3) (j:=7) kqz ?_ ?_
          . skip
            refine Yg8 ?_;refine th_one (i:=8) kqz ?_;refine oh_c rfl rfl rfl (o_call bd164 rfl (Publish_c (s:=s38) (p:=(at_:Nat)) (v:=0))) ?_;rintro _ _ ⟨e50,s50,hs50,rfl,rfl⟩;refine Ycb ?_;exact ⟨e50,s50,hs50,rfl,rfl,rfl,rfl,rfl,(by repeat (first|with_reducible exact dr_refl|apply dr_keep|apply dr_drop))⟩
          . skip
            refine Yhb ?_;refine oh_c rfl rfl rfl (o_call bd164 rfl (Publish_c (s:=s38) (p:=(at_:Nat)) (v:=0))) ?_;rintro _ _ ⟨e50,s50,hs50,rfl,rfl⟩;refine Ycb ?_;exact ⟨e50,s50,hs50,rfl,rfl,rfl,rfl,rfl,(by repeat (first|with_reducible exact dr_refl|apply dr_keep|apply dr_drop))⟩
      . skip
        refine Yd5 ?_;refine th_two (i:=0) (j:=7) kqz ?_ ?_
        . skip
          refine Y8 ?_;refine th_two (i:=3) (j:=7) kqz ?_ ?_
          . skip
            refine Yg8 ?_;refine th_one (i:=8) kqz ?_;refine oh_c rfl rfl rfl (o_call bd164 rfl (Publish_c (s:=s38) (p:=(at_:Nat)) (v:=0))) ?_;rintro _ _ ⟨e50,s50,hs50,rfl,rfl⟩;refine Ycb ?_;exact ⟨e50,s50,hs50,rfl,rfl,rfl,rfl,rfl,(by repeat (first|with_reducible exact dr_refl|apply dr_keep|apply dr_drop))⟩
          . skip
            refine Yhb ?_;refine oh_c rfl rfl rfl (o_call bd164 rfl (Publish_c (s:=s38) (p:=(at_:Nat)) (v:=0))) ?_;rintro _ _ ⟨e50,s50,hs50,rfl,rfl⟩;refine Ycb ?_;exact ⟨e50,s50,hs50,rfl,rfl,rfl,rfl,rfl,(by repeat (first|with_reducible exact dr_refl|apply dr_keep|apply dr_drop))⟩
        . skip
          refine oh_v rfl rfl rfl (o_load p3 rfl (by repeat (first|assumption|apply has_left)) rfl) ?_;refine th_one (i:=0) kqz ?_;refine Y8 ?_;refine Ydm ?_;refine oh_c rfl rfl rfl (o_call bd164 rfl (Publish_c (s:=s38) (p:=(at_:Nat)) (v:=0))) ?_;rintro _ _ ⟨e50,s50,hs50,rfl,rfl⟩;refine Ycb ?_;exact ⟨e50,s50,hs50,rfl,rfl,rfl,rfl,rfl,(by repeat (first|with_reducible exact dr_refl|apply dr_keep|apply dr_drop))⟩
    intro ρ B hI;obtain ⟨e50,s50,hst0,hE10,hE56,hE2,hE3,hE4,hBA⟩:=hI;refine q_then_n ?_;refine tc_pre hBA.sat ?_;clear hBA;refine tc_env (d:=10) hE10 ?_;refine tc_env (d:=56) hE56 ?_;refine tc_env (d:=2) hE2 ?_;refine tc_env (d:=3) hE3 ?_;refine tc_env (d:=4) hE4 ?_;refine Yer ?_;refine Y6 ?_;refine tc_cond rfl (λ h=> ?_) (λ h=> ?_)
    . have he50:e50≠0:=(by simpa using h);refine Y5 ?_;refine Yx ?_;refine Yfi ?_;refine q_then_r ?_;exact ⟨[r],_,rfl,λ _ _ h=>mk1 h,.tuple #[.int .i64 0,.int .i64 e50],C (Dev d s50),resA2 rfl (rv_cell1 p3 rfl (by repeat (first|with_reducible exact has_here|with_reducible exact has_pt|apply has_left)) rfl) (rv_cell1 p43 rfl (by repeat (first|with_reducible exact has_here|with_reducible exact has_pt|apply has_left)) rfl),λ _ _ h=>by rw [hC];exact (Dr.sat (A':=R*Dev d s50) (by repeat (first|with_reducible exact dr_refl|apply dr_keep|apply dr_drop))) _ _ h,e50,0,s50,roll_p hL hne hbk hs38 hst0 he50,rfl,rfl⟩
    obtain rfl:e50=0:=by simpa using h
    refine Yed ?_;refine Yc8 ?_;refine tl_v rfl (o_len underlying184 rfl) ?_;refine tl_u rfl (o_stU rfl (by repeat (first|with_reducible exact upd_here|with_reducible exact upd_pt|apply upd_left)) sz3 rfl rfl (by first|decide|simp|omega) rfl) ?_;refine Yfi ?_;exact ⟨[r],_,rfl,λ _ _ h=>mk1 h,.tuple #[vn L.length,.int .i64 0],C (Dev d s50),resA2 rfl (rv_cell1 p3 rfl (by repeat (first|with_reducible exact has_here|with_reducible exact has_pt|apply has_left)) rfl) (rv_cell1 p43 rfl (by repeat (first|with_reducible exact has_here|with_reducible exact has_pt|apply has_left)) rfl),λ _ _ h=>by rw [hC];exact (Dr.sat (A':=R*Dev d s50) (by repeat (first|with_reducible exact dr_refl|apply dr_keep|apply dr_drop))) _ _ h,0,((L.length:Nat):Int),s50,roll_o hL hne hbk hs38 hst0,rfl,rfl⟩
  intro r j S hX;obtain ⟨e,s1,rfl,hx0,hx1,rfl⟩:=hX;refine jmp_r ?_;refine q_block_r (q_then_r ?_);exact ⟨[r],_,rfl,λ _ _ h=>mk1 h,.tuple #[.int .i64 0,.int .i64 e],C (Dev d s1),resA2 rfl (rv_cell1 p3 rfl (by repeat (first|with_reducible exact has_here|with_reducible exact has_pt|apply has_left)) rfl) (rv_cell1 p43 rfl (by repeat (first|with_reducible exact has_here|with_reducible exact has_pt|apply has_left)) rfl),λ _ _ h=>by rw [hC];exact (Dr.sat (A':=R*Dev d s1) (by repeat (first|with_reducible exact dr_refl|apply dr_keep|apply dr_drop))) _ _ h,e,0,s1,roll_b hL hne hx0 hx1,rfl,rfl⟩
end Rg
end Go.Vl

namespace Go.Vl
open Go Go.Proofs Go.Proofs.Tryz
theorem need_val:∀{l:List (Int×Int)} {s:Int},(∀x∈l,1<=x.2/\ x.2<=4194304)->0<=s->s+(needN l:Nat)<=4611686018427387904->needF (lensX l) s=(s+(needN l:Nat),0)
  |[],s,_,_,_=>by
    show (s,(0:Int))=(s+((0:Nat):Int),0)
    rw [show s+((0:Nat):Int)=s by omega]
  |x::l,s,hx,h0,hs=>by
    have h1:=hx x (by simp);obtain ⟨n,hn⟩:=Int.eq_ofNat_of_zero_le (show 0<=x.2 by omega);have hc:lensX (x::l)=(n:Int)::lensX l:=(by unfold lensX;rw [List.map_cons,hn]);have hu:=up8_le n;have e:rndS n=(((up8 n:Nat):Int),0):=(by unfold rndS;have:pad8 n<8:=(by unfold pad8;omega);rw [if_neg oqz]);rw [needN_cons,hn,Int.toNat_natCast] at hs ⊢
    rw [hc,needF_cons oqz,e,if_neg (by simp only [ne_eq,not_true,false_or];omega)]
    simp only
    rw [need_val (λ x hx'=>hx x (List.mem_cons_of_mem _ hx')) oqz oqz]
    congr 1;omega
theorem need_may {n at_ sz:Nat}{l:List (Int×Int)}(hn:n<=4194304)(hl:l.all (mayX n at_ sz)=true)(hN:needN l<=4194304):needS (lensX l)=(((needN l:Nat):Int),0):=by
  unfold needS
  rw [need_val (λ x hx=>by obtain ⟨p,m,rfl,_,h1,h2,_⟩:=may_nat (List.all_eq_true.1 hl x hx);exact ⟨by show (1:Int)<=(m:Int);omega,by show (m:Int)<=4194304;omega⟩) (by decide) oqz]
  congr 1;omega
theorem take_app {a b:List Nat}{n:Nat}(h:a.length=n):(a++b).take n=a:=List.take_left' h
theorem drop_app {a b:List Nat}{n:Nat}(h:a.length=n):(a++b).drop n=b:=List.drop_left' h
theorem read_rec {n at_ sz p w:Nat}{room old rest:List Nat}(hn:n<=4194304)(hd:room.drop p=recS w old++rest)(hm:mayX n at_ sz ((w:Int),((old.length:Nat):Int))=true):readS n at_ sz room p=some ((w,old),24+up8 old.length):=by
  obtain ⟨w',m',hz,y1,y2,y3,y4⟩:=may_nat hm
  simp only [Prod.mk.injEq,Int.ofNat_inj] at hz
  obtain ⟨z1,z2⟩:=hz;have hrl:=recS_len w old
  have hlen:room.length-p=(24+up8 old.length)+rest.length:=by
    have:=congrArg List.length hd;rw [List.length_drop,List.length_append,hrl] at this;exact this
  have hu:=up8_le old.length
  have hd8:room.drop (p+8)=le 8 old.length++(le 8 (crc 0 (recH w old.length++old))++old++List.replicate (pad8 old.length) 0++rest):=by
    rw [←List.drop_drop,hd,recS_eq]
    unfold recH
    simp only [List.append_assoc]
    rw [drop_app (le_length 8 _)]
  have hd24:room.drop (p+24)=old++(List.replicate (pad8 old.length) 0++rest):=by
    rw [←List.drop_drop,hd,recS_eq]
    rw [List.append_assoc,List.append_assoc,drop_app (by rw [List.length_append,recH_len,le_length])]
  have e1:nm ((room.drop p).take 8)=w:=by
    rw [hd,recS_eq];unfold recH
    simp only [List.append_assoc]
    rw [take_app (le_length 8 _),nm_le]
    exact Nat.mod_eq_of_lt (by have : (256 : Nat) ^ 8 = 18446744073709551616 := by decide
                               omega)
  have e2:nm ((room.drop (p+8)).take 8)=old.length:=by
    rw [hd8,take_app (le_length 8 _),nm_le]
    exact Nat.mod_eq_of_lt (by have : (256 : Nat) ^ 8 = 18446744073709551616 := by decide
                               omega)
  have e3:(room.drop (p+24)).take old.length=old:=(by rw [hd24,take_app rfl]);have e4:(room.drop p).take (24+up8 old.length)=recS w old:=(by rw [hd,take_app hrl]);have:=read_good (n:=n) (at_:=at_) (sz:=sz) e1 e2 oqz hm oqz (by rw [e3,e4]);rw [e3] at this;exact this
def oldsL (I:List Nat)(l:List (Int×Int)):List (Nat×List Nat):=l.map λ x=>(x.1.toNat,(I.drop x.1.toNat).take x.2.toNat)
theorem recs_of {n at_ sz:Nat}{I room:List Nat}(hn:n<=4194304)(hI:I.length=n):∀{l:List (Int×Int)} {p:Nat} {rest:List Nat},l.all (mayX n at_ sz)=true->room.drop p=recsB I l++rest->recsF n at_ sz room l.length p=(oldsL I l,0)
  |[],_,_,_,_=>rfl
  |x::l,p,rest,hl,hd=>by
    rw [List.all_cons,Bool.and_eq_true] at hl
    obtain ⟨q,m,rfl,y1,y2,y3,y4⟩:=may_nat hl.1;have hol:((I.drop q).take m).length=m:=(by rw [List.length_take,List.length_drop];omega);rw [recsB_cons,List.append_assoc] at hd
    simp only [Int.toNat_natCast] at hd
    have hr:=read_rec (at_:=at_) (sz:=sz) hn hd (by rw [hol];exact hl.1);rw [hol] at hr
    have hd2:room.drop (p+(24+up8 m))=recsB I l++rest:=by
      rw [←List.drop_drop,hd,drop_app (by rw [recS_len,hol])]
    have ih:=recs_of hn hI hl.2 hd2;rw [List.length_cons]
    have e:recsF n at_ sz room (l.length+1) p=match readS n at_ sz room p with
      |none=>([],110)
      |some (x,t)=>if (recsF n at_ sz room l.length (p+t)).2≠0 then ([],110) else (x::(recsF n at_ sz room l.length (p+t)).1,0):=rfl
    rw [e,hr]
    simp only
    rw [ih,if_neg (by simp)]
    rfl
theorem records_of {at_ sz:Nat}{I:List Nat}{l:List (Int×Int)}{s:DevS}(hw:WfD s)(hO:s.off=false)(hlw:LogW (s.ls.length*64) at_ sz)(hI:I.length=s.ls.length*64)(hl:l.all (mayX (s.ls.length*64) at_ sz)=true)(hN:needN l<=sz-64)
    (h1:nm (((imgS s).drop at_).take 8)=l.length) (h2:((imgS s).drop (at_+64)).take (needN l)=recsB I l):recordsS at_ sz s=(oldsL I l,0):=by
  have htop:=hw.top;have ht:=hlw.top;have hsz:=hlw.s;have ham:=hlw.am
  unfold recordsS
  rw [if_neg (by rw [hO];decide),word_in hO oqz oqz,h1]
  refine recs_of (rest:=(((imgS s).drop (at_+64)).drop (needN l)).take (sz-64-needN l)) oqz hI hl ?_
  unfold roomS
  rw [List.drop_zero,←h2]
  rw [show sz-64=needN l+(sz-64-needN l) by omega,List.take_add]
  congr 1
  congr 1
  omega
theorem records_none {at_ sz:Nat}{s:DevS}(hO:s.off=false)(hlw:LogW (s.ls.length*64) at_ sz)(h1:nm (((imgS s).drop at_).take 8)=0):recordsS at_ sz s=([],0):=by
  have ht:=hlw.top;have hsz:=hlw.s;have ham:=hlw.am
  unfold recordsS
  rw [if_neg (by rw [hO];decide),word_in hO oqz oqz,h1];rfl
def wrI1 (at_:Nat)(I:List Nat)(l:List (Int×Int)):List Nat:=spl I (at_+64) (recsB I l)
def wrI (at_:Nat)(I:List Nat)(l:List (Int×Int)):List Nat:=spl (wrI1 at_ I l) at_ (le 8 l.length)
theorem flL_loss {X:Nat->List Nat->Prop}:∀ (k q:Nat) (s:DevS),WfD s->s.off=false->Poss X s->q+k<=s.ls.length→
    ∃e s2,flL k q s=(e,s2)/\ ((e=0/\ s2.off=false/\ WfD s2/\ s2.ls=flsh k q s.ls)∨(e=5/\ Lost X s.ls.length s2))
  |0,q,s,hw,hO,hP,h=>⟨0,s,rfl,.inl ⟨rfl,hO,hw,(flsh_zero q s.ls).symm⟩⟩
  |k+1,q,s,hw,hO,hP,h=>by
    have hq:q<s.ls.length:=(by omega)
    have hs:flushS (q*64) s={ s with ls:=s.ls.set q (flushL s.ls[q]) }:=by
      unfold flushS;rw [show q*64/64=q by omega,onLine_at hq]
    have hwF:=flushS_wf (p:=q*64) hw
    have hPF:Poss X (flushS (q*64) s):=poss_sub hP λ j l' hl'=>by
      rw [hs] at hl'
      by_cases e:q=j
      . subst e;rw [List.getElem?_set_self hq] at hl'
        have:=Option.some.inj hl';subst this;exact ⟨_,List.getElem?_eq_getElem hq,λ σ h=>h⟩
      rw [List.getElem?_set_ne e] at hl'
      exact ⟨l',hl',λ σ h=>h⟩
    have hlF:(flushS (q*64) s).ls.length=s.ls.length:=(by rw [hs];simp)
    have hf1:fl1 ((q*64:Nat):Int) s=(doneE (flushS (q*64) s),doneS (flushS (q*64) s)):=by
      unfold fl1
      rw [hO,rdy_ok oqz oqz oqz,if_neg (by simp),Int.toNat_natCast]
    show∃e s2,(if (fl1 ((q*64:Nat):Int) s).1≠0 then fl1 ((q*64:Nat):Int) s else flL k (q+1) (fl1 ((q*64:Nat):Int) s).2)=(e,s2)/\ _
    rw [hf1]
    rcases done_loss hwF hPF with ⟨h1,h2,h3⟩|⟨h1,h2⟩
    . simp only []
      rw [h1,if_neg (by decide)]
      obtain ⟨e,s2,g1,g2⟩:=flL_loss (X:=X) k (q+1) (doneS (flushS (q*64) s)) (doneS_wf hwF) (by rw [h3,hs];exact hO) (λ j l hl σ hσ=>by rw [h2] at hl;exact hPF j l hl σ hσ) (by rw [h2,hlF];omega);refine ⟨e,s2,g1, ?_⟩
      rcases g2 with ⟨a1,a2,a3,a4⟩|⟨a1,a2⟩
      . exact .inl ⟨a1,a2,a3,by rw [a4,h2,hs];simp only [];rw [flsh_step hq]⟩
      exact .inr ⟨a1,by rw [h2,hlF] at a2;exact a2⟩
    simp only []
    rw [h1,if_pos (by decide)]
    exact ⟨5,_,rfl,.inr ⟨rfl,by rw [hlF] at h2;exact h2⟩⟩
def Mkd (j:Nat)(s:DevS):Prop:=∀l,s.ls[j]? =some l->l.mark=(l.st.length:Int)-1
theorem back_loss {X:Nat->List Nat->Prop}{p r:Nat}{b:List Nat}{s:DevS}(hw:WfD s)(hO:s.off=false)(hP:Poss X s)(hb:∀x∈b,x<256)(h1:1<=b.length)(hp:p+b.length<=s.ls.length*64)(hr:Room (r+b.length) s)
    (hX:∀k j,0<k->k<=b.length->j<s.ls.length->X j (chunk j (spl (imgS s) p (b.take k)))):
    ∃e s2,backS (p,b) s=(e,s2)/\ ((e=0/\ s2.off=false/\ WfD s2/\ Poss X s2/\ s2.ls.length=s.ls.length/\ Room r s2/\ imgS s2=spl (imgS s) p b/\ (∀j:Nat,(j+1)*64<=p∨p+b.length<=j*64->s2.ls[j]? =s.ls[j]?)/\ (∀j:Nat,¬((j+1)*64<=p∨p+b.length<=j*64)->Mkd j s2))∨(e=5/\ Lost X s.ls.length s2)):=by
  obtain ⟨e,s1,g1,g2⟩:=storeF_loss (X:=X) b.length (p:=p) (r:=r) rfl hw hO hb hr hp hP (λ k j k0 k1 _ hj=>hX k j k0 k1 hj)
  have hst:sto (p:Nat) b s=(e,s1):=by
    unfold sto;rw [hO,rdy_ok oqz oqz oqz,if_neg (by decide),Int.toNat_natCast];exact g1
  unfold backS
  simp only []
  rw [hst]
  rcases g2 with ⟨a1,⟨a2,a3,a4,a5,a6⟩,a7,a8⟩|⟨a1,a2⟩
  . subst a1;rw [if_neg (by simp)]
    unfold flushX
    obtain ⟨e,s2,k1,k2⟩:=flL_loss (X:=X) ((p+b.length-1)/64-p/64+1) (p/64) s1 a3 a2 a4 (by rw [a5];omega);refine ⟨e,s2,k1, ?_⟩;rw [a5] at k2
    rcases k2 with ⟨b1,b2,b3,b4⟩|k2
    . have hlen:s2.ls.length=s.ls.length:=(by rw [b4,flsh_len,a5])
      have hget:∀j l',s2.ls[j]? =some l'->∃l,s1.ls[j]? =some l/\ l'=if p/64<=j/\ j<p/64+((p+b.length-1)/64-p/64+1) then flushL l else l:=λ j l' hl=>by
        rw [b4] at hl;exact flsh_get hl
      refine .inl ⟨b1,b2,b3,λ j l' hl σ hσ=> ?_,hlen, ?_, ?_,λ j hj=> ?_,λ j hj l' hl=> ?_⟩
      . obtain ⟨l,e1,e2⟩:=hget j l' hl;refine a4 j l e1 σ ?_;subst e2;split at hσ
        . exact hσ
        exact hσ
      . intro l' hl;obtain ⟨j,hj,rfl⟩:=List.mem_iff_getElem.1 hl;obtain ⟨l,e1,e2⟩:=hget j _ (List.getElem?_eq_getElem hj);have:=a7 l (List.mem_of_getElem? e1);rw [e2];split
        . exact this
        exact this
      . rw [←a8];unfold imgS;rw [b4]
        exact img_seen (flsh_seen _ _ _)
      . rw [←a6 j hj,b4]
        cases e:(flsh ((p+b.length-1)/64-p/64+1) (p/64) s1.ls)[j]? with
        |none=>rw [List.getElem?_eq_none];rw [List.getElem?_eq_none_iff,flsh_len] at e;exact e
        |some l'=>
          obtain ⟨l,e1,e2⟩:=flsh_get e;rw [if_neg oqz] at e2
          rw [e1,e2]
      obtain ⟨l,e1,e2⟩:=hget j l' hl;rw [if_pos oqz] at e2
      rw [e2];rfl
    exact .inr k2
  subst a1;rw [if_pos (show (5:Int)≠0 by decide)]
  exact ⟨5,s1,rfl,.inr ⟨rfl,a2⟩⟩
def InX (L:List (Nat×List Nat))(i:Nat):Prop:=∃x∈L,x.1<=i/\ i<x.1+x.2.length
def XU (L:List (Nat×List Nat))(I:List Nat)(q:Nat)(c:List Nat):Prop:=∀j,j<64->¬InX L (q*64+j)->c[j]? =I[q*64+j]?
structure AS (L:List (Nat×List Nat)) (I:List Nat) (s:DevS):Prop where
  wf:WfD s
  len:I.length=s.ls.length*64
  poss:Poss (XU L I) s
  one:∀ (q:Nat) (l:LineS),(∀i,InX L i->i/64≠q)->s.ls[q]? =some l->l.st.length=1
theorem AS.img {L:List (Nat×List Nat)}{I:List Nat}{s:DevS}(h:AS L I s){i:Nat}(hi:¬InX L i):(imgS s)[i]? =I[i]? :=by
  have hil:=imgS_len h.wf;have hl:=h.len
  rcases Nat.lt_or_ge i (s.ls.length*64) with h1|h1
  . have:=poss_img h.wf h.poss (q:=i/64) oqz (i%64) oqz (by rw [show i/64*64+i%64=i by omega];exact hi);rw [chunk_at oqz,show i/64*64+i%64=i by omega] at this
    exact this
  rw [List.getElem?_eq_none oqz,List.getElem?_eq_none oqz]
theorem AS.sub {L:List (Nat×List Nat)}{I:List Nat}{s:DevS}(h:AS L I s){p m:Nat}(hd:∀i,p<=i->i<p+m->¬InX L i):((imgS s).drop p).take m=(I.drop p).take m:=by
  apply List.ext_getElem?
  intro i;rw [List.getElem?_take,List.getElem?_take]
  split
  . rw [List.getElem?_drop,List.getElem?_drop];exact h.img (hd _ oqz oqz)
  rfl
theorem as_lost {L:List (Nat×List Nat)}{I:List Nat}{n:Nat}{s:DevS}(h:Lost (XU L I) n s)(hI:I.length=n*64):AS L I s:=by
  obtain ⟨_,h2,h3,h4,h5⟩:=h;exact ⟨h2,by rw [h5];exact hI,h4,λ q l _ hl=>h3 l (List.mem_of_getElem? hl)⟩
theorem as_cln {L:List (Nat×List Nat)}{I:List Nat}{s:DevS}(hw:WfD s)(hc:Cln s)(hI:imgS s=I):AS L I s:=
  ⟨hw,by rw [←hI];exact imgS_len hw,poss_cln hw hc λ q hq j hj _=>by rw [chunk_at hj,hI],λ q l _ hl=>hc l (List.mem_of_getElem? hl)⟩
theorem xu_spl {L:List (Nat×List Nat)}{I:List Nat}{s:DevS}(h:AS L I s){p:Nat}{b:List Nat}(hp:p+b.length<=s.ls.length*64)(hin:∀i,p<=i->i<p+b.length->InX L i):∀k j,0<k->k<=b.length->j<s.ls.length->XU L I j (chunk j (spl (imgS s) p (b.take k))):=λ k j _ k1 hj i hi hn=>by
  have hil:=imgS_len h.wf;have hkl:(b.take k).length=k:=(by rw [List.length_take];omega);rw [chunk_at hi,spl_at oqz,if_neg (λ hc=>hn (hin _ hc.1 oqz))]
  exact h.img hn
structure Got (D:List (Nat×List Nat)) (I:List Nat) (s:DevS):Prop where
  img:∀i,InX D i->(imgS s)[i]? =I[i]?
  mkd:∀i,InX D i->Mkd (i/64) s
theorem backF_loss {L:List (Nat×List Nat)}{I:List Nat}:∀{l D:List (Nat×List Nat)} {r:Nat} {s:DevS},AS L I s->s.off=false->(∀x∈l,x∈L/\ 1<=x.2.length/\ x.1+x.2.length<=s.ls.length*64/\ (∀b∈x.2,b<256)/\ x.2=(I.drop x.1).take x.2.length)->Room (r+sumL l) s->Got D I s→
    ∃e s2,backF l s=(e,s2)/\ ((e=0/\ s2.off=false/\ AS L I s2/\ s2.ls.length=s.ls.length/\ Room r s2/\ Got (l++D) I s2)∨(e=5/\ Lost (XU L I) s.ls.length s2))
  |[],D,r,s,hA,hO,_,hr,hG=>⟨0,s,rfl,.inl ⟨rfl,hO,hA,rfl,λ l hl=>by have:=hr l hl;omega,hG⟩⟩
  |x::l,D,r,s,hA,hO,hl,hr,hG=>by
    obtain ⟨m1,m2,m3,m4,m5⟩:=hl x (by simp);rw [sumL_cons] at hr
    have hil:=imgS_len hA.wf;have hIl:=hA.len;have hin:∀i,x.1<=i->i<x.1+x.2.length->InX L i:=λ i h1 h2=>⟨x,m1,h1,h2⟩
    obtain ⟨e,s1,g1,g2⟩:=back_loss (X:=XU L I) (r:=r+sumL l) hA.wf hO hA.poss m4 m2 m3 (λ l hl=>by have:=hr l hl;omega) (xu_spl hA m3 hin)
    rcases g2 with ⟨a1,a2,a3,a4,a5,a6,a7,a8,a9⟩|⟨a1,a2⟩
    . subst a1;rw [backF_o (x:=x) g1]
      have hA1:AS L I s1:=⟨a3,by rw [a5];exact hIl,a4,λ q ln hq hln=>by
        by_cases hj:(q+1)*64<=x.1∨x.1+x.2.length<=q*64
        . rw [a8 q hj] at hln;exact hA.one q ln hq hln
        exact absurd (show max x.1 (q*64)/64=q by omega) (hq (max x.1 (q*64)) ⟨x,m1,by omega,by omega⟩)⟩
      have hG1:Got (x::D) I s1:=by
        refine ⟨λ i hi=> ?_,λ i hi=> ?_⟩
        . rw [a7,spl_at oqz]
          by_cases hc:x.1<=i/\ i<x.1+x.2.length
          . rw [if_pos hc]
            have:x.2[i-x.1]? =((I.drop x.1).take x.2.length)[i-x.1]? :=(by rw [←m5]);rw [this,List.getElem?_take,if_pos oqz,List.getElem?_drop,show x.1+(i-x.1)=i by omega]
          rw [if_neg hc]
          obtain ⟨y,hy,y1,y2⟩:=hi
          rcases List.mem_cons.1 hy with rfl|hy
          . exact absurd ⟨y1,y2⟩ hc
          exact hG.img i ⟨y,hy,y1,y2⟩
        by_cases hj:(i/64+1)*64<=x.1∨x.1+x.2.length<=i/64*64
        . obtain ⟨y,hy,y1,y2⟩:=hi
          rcases List.mem_cons.1 hy with rfl|hy
          . omega
          intro ln hln;rw [a8 _ hj] at hln
          exact hG.mkd i ⟨y,hy,y1,y2⟩ ln hln
        exact a9 _ hj
      obtain ⟨e,s2,k1,k2⟩:=backF_loss (l:=l) (D:=x::D) (r:=r) hA1 a2 (λ y hy=>by rw [a5];exact hl y (List.mem_cons_of_mem _ hy)) a6 hG1;refine ⟨e,s2,k1, ?_⟩;rw [a5] at k2
      rcases k2 with ⟨b1,b2,b3,b4,b5,b6⟩|k2
      . refine .inl ⟨b1,b2,b3,b4,b5,⟨λ i hi=>b6.img i ?_,λ i hi=>b6.mkd i ?_⟩⟩<;>
        . obtain ⟨y,hy,h12⟩:=hi;refine ⟨y, ?_,h12⟩
          simp only [List.mem_append,List.mem_cons] at hy ⊢
          rcases hy with (h|h)|h
          . exact .inr (.inl h)
          . exact .inl h
          exact .inr (.inr h)
      exact .inr k2
    subst a1;exact ⟨5,s1,backF_e (x:=x) g1 (by decide),.inr ⟨rfl,a2⟩⟩
theorem roll_loss {at_ sz:Nat}{L:List (Nat×List Nat)}{I:List Nat}{s:DevS}(hA:AS L I s)(hO:s.off=false)(hlw:LogW (s.ls.length*64) at_ sz)(hr:Room (sumL L+1) s)(hne:L≠[])(hrec:recordsS at_ sz s=(L,0))
    (hL:∀x∈L,mayX (s.ls.length*64) at_ sz ((x.1:Int),((x.2.length:Nat):Int))=true/\ (∀b∈x.2,b<256)/\ x.2=(I.drop x.1).take x.2.length):
    ∃k e s2,rollS at_ sz s=((k,e),s2)/\ s2.ls.length=s.ls.length/\ ((e=0/\ k=L.length/\ s2.off=false/\ WfD s2/\ Cln s2/\ imgS s2=spl I at_ (le 8 0))∨(e=5/\ s2.off=true/\ ((AS L I s2/\ Cln s2)∨(WfD s2/\ Cln s2/\ imgS s2=spl I at_ (le 8 0))))):=by
  have htop:=hA.wf.top;have ht:=hlw.top;have hsz:=hlw.s;have ham:=hlw.am;have hIl:=hA.len
  obtain ⟨e,s1,g1,g2⟩:=backF_loss (l:=L.reverse) (D:=[]) (r:=1) hA hO (λ x hx=>by
    have hx:=List.mem_reverse.1 hx;obtain ⟨h1,h2,h3⟩:=hL x hx;obtain ⟨p,m,hz,y1,y2,y3,y4⟩:=may_nat h1
    simp only [Prod.mk.injEq,Int.ofNat_inj] at hz
    exact ⟨hx,by omega,by omega,h2,h3⟩) (λ l hl=>by have:=hr l hl;rw [sumL_rev];omega) ⟨λ i hi=>by obtain ⟨x,hx,_⟩:=hi;simp at hx,λ i hi=>by obtain ⟨x,hx,_⟩:=hi;simp at hx⟩
  rcases g2 with ⟨a1,a2,a3,a4,a5,a6⟩|⟨a1,a2⟩
  . subst a1;rw [List.append_nil] at a6
    have hinr:∀i,InX L i↔InX L.reverse i:=λ i=>by
      constructor
      . rintro ⟨x,hx,h⟩;exact ⟨x,List.mem_reverse.2 hx,h⟩
      rintro ⟨x,hx,h⟩;exact ⟨x,List.mem_reverse.1 hx,h⟩
    have hi1:imgS s1=I:=by
      apply List.ext_getElem?
      intro i
      by_cases hi:InX L i
      . exact a6.img i ((hinr i).1 hi)
      exact a3.img hi
    -- the fence
    have hwf:=fence_wf a3.wf
    have hPf:Poss (XU L I) (fenceS s1):=poss_sub a3.poss λ q l' hl'=>by
      obtain ⟨l,h1,rfl⟩:=fence_get hl';exact ⟨l,h1,fence_mem⟩
    have hfe:fe s1=(doneE (fenceS s1),doneS (fenceS s1)):=(by unfold fe;rw [if_neg (by rw [a2];decide)]);have hfl:(fenceS s1).ls.length=s.ls.length:=(by simp [fenceS,a4])
    rcases done_loss hwf hPf with ⟨b1,b2,b3⟩|⟨b1,b2⟩
    . have hfe2:fe s1=(0,doneS (fenceS s1)):=(by rw [hfe,b1]);obtain ⟨s2,hs2⟩:∃s2,doneS (fenceS s1)=s2:=⟨_,rfl⟩;have hw2:WfD s2:=hs2▸doneS_wf hwf
      rw [hs2] at hfe2 b2 b3
      have hl2:s2.ls.length=s.ls.length:=(by rw [b2,hfl]);have hoff2:s2.off=false:=(by rw [b3];exact a2)
      have hi2:imgS s2=I:=by
        rw [←hi1];unfold imgS;rw [b2]
        show img (s1.ls.map fenceL)=_
        refine img_seen ?_;rw [List.map_map]
        exact List.map_congr_left λ l hl=>seen_fence (a3.wf.line l hl)
      have hc2:Cln s2:=λ l' hl'=>by
        rw [b2] at hl'
        obtain ⟨q,hq,rfl⟩:=List.mem_iff_getElem.1 hl';obtain ⟨l,e1,e2⟩:=fence_get (show (s1.ls.map fenceL)[q]? =some _ from List.getElem?_eq_getElem hq);have hwl:=a3.wf.line l (List.mem_of_getElem? e1);have hpl:=List.length_pos_iff.2 hwl.ne;rw [e2]
        by_cases hU:∀i,InX L i->i/64≠q
        . have h1:=a3.one q l hU e1
          unfold fenceL;split
          . have:=hwl.hi;simp only [List.length_drop];omega
          exact h1
        have:∃i,InX L i/\ i/64=q:=by
          apply Classical.byContradiction
          intro hn;exact hU λ i hi he=>hn ⟨i,hi,he⟩
        obtain ⟨i,hi,rfl⟩:=this;have h1:=a6.mkd i ((hinr i).1 hi) l e1
        unfold fenceL
        rw [if_pos oqz]
        simp only [List.length_drop];omega
      have hr2:Room 1 s2:=fe_room hfe2 a3.wf a5
      obtain ⟨e3,s3,c1,c2⟩:=pub_loss (X:=λ q c=>c=chunk q I∨c=chunk q (spl I at_ (le 8 0))) (p:=at_) (v:=0) (s:=s2) hw2 hoff2
        (poss_cln hw2 hc2 λ q hq=> .inl (by rw [hi2])) (λ q ln _ hln=>hc2 ln (List.mem_of_getElem? hln)) oqz (by rw [hl2];omega) (by decide) hr2 (.inr (by rw [hi2]))
      rw [hl2] at c2
      rcases c2 with ⟨d1,d2,d3,d4,d5,d6⟩|⟨d1,d2,d3,d4,d5,d6⟩
      . subst d1;exact ⟨_,_,s3,roll_o hrec hne g1 hfe2 c1,d5,.inl ⟨rfl,rfl,d2,d3,d4,by rw [d6,hi2]⟩⟩
      subst d1;refine ⟨_,_,s3,roll_p hrec hne g1 hfe2 c1 (by decide),d6,.inr ⟨rfl,d2, ?_⟩⟩;have hil3:=imgS_len d3;have hJl:(spl I at_ (le 8 0)).length=s.ls.length*64:=(by rw [spl_length (by rw [le_length];omega),hIl]);have hoth:∀q,q≠at_/64->chunk q (spl I at_ (le 8 0))=chunk q I:=λ q hq=>chunk_spl (by rw [le_length];omega) (by rw [le_length];omega)
      have hq:∀q,q<s.ls.length->chunk q (imgS s3)=chunk q I∨chunk q (imgS s3)=chunk q (spl I at_ (le 8 0)):=λ q hq=>poss_img d3 d5 (by rw [d6];exact hq)
      rcases hq (at_/64) oqz with h1|h1
      . exact .inl ⟨as_cln d3 d4 (img_ext (n:=s.ls.length) (by rw [hil3,d6]) hIl λ q hql=>by
          by_cases e:q=at_/64
          . rw [e];exact h1
          rcases hq q hql with h2|h2
          . exact h2
          rw [h2,hoth q e]),d4⟩
      exact .inr ⟨d3,d4,img_ext (n:=s.ls.length) (by rw [hil3,d6]) hJl λ q hql=>by
        by_cases e:q=at_/64
        . rw [e];exact h1
        rcases hq q hql with h2|h2
        . rw [h2,hoth q e]
        exact h2⟩
    rw [hfl] at b2
    refine ⟨_,_,_,roll_f hrec hne g1 (show fe s1=(5,doneS (fenceS s1)) by rw [hfe,b1]) (by decide),b2.2.2.2.2,.inr ⟨rfl,b2.1,.inl ⟨as_lost b2 hIl,b2.2.2.1⟩⟩⟩
  subst a1;exact ⟨_,_,s1,roll_b hrec hne g1 (by decide),a2.2.2.2.2,.inr ⟨rfl,a2.1,.inl ⟨as_lost a2 hIl,a2.2.2.1⟩⟩⟩
def armP (after:Int)(keep:List Int)(Q:PlS):PlS:={ Q with s:={ Q.s with arms:=[(after,keep)],cnt:=Q.s.ops } }
structure ArmStep (after:Int) (keep:List Int) (P':Bool×PlS) (Q:PlS) (Q':Bool×PlS):Prop where
  ok:Q'.1=true
  ops:P'.2.s.ops=Q'.2.s.ops
  near:Q'.2.s.ops=Q.s.ops∨Q'.2.s.ops=Q.s.ops+1
  on:Q'.2.s.ops≠after->P'=(true,armP after keep Q'.2)
  gone:Q'.2.s.ops=after->P'.1=false/\ P'.2.s.off=true/\ P'.2.s.arms=[]/\ P'.2.s.ls=(goesS keep Q'.2.s).ls
theorem WfP.mono {r r':Nat}{P:PlS}(h:WfP r P)(hr:r'<=r):WfP r' P:=⟨h.pos,h.top,h.ls,h.seen,h.held,h.last,h.sure,λ l hl=>by have:=h.room l hl;omega,λ l hl=>by have:=h.hroom l hl;omega⟩
theorem spl_drop_ge {α:Type}{l b:List α}{p k:Nat}(h:p+b.length<=l.length)(hk:p+b.length<=k):(spl l p b).drop k=l.drop k:=by
  apply List.ext_getElem?
  intro i;rw [List.getElem?_drop,List.getElem?_drop,spl_at h,if_neg oqz]
def rise (n:Nat):List Nat:=(List.range n).map λ i=>i%256
def mdK (k:Nat):List Nat:=spl (rise 1024) 128 (List.replicate k 0)
def mdI:List Nat:=mdK 8
def mds:DevS:=fromS 16 mdI
theorem room_cln {s:DevS}(h:Cln s){k:Nat}(hk:k<=2199023255551):Room k s:=λ l hl=>by rw [h l hl];omega
def LogI (sz:Nat)(l:List (Int×Int))(I:List Nat):Prop:=nm ((I.drop 128).take 8)=l.length/\ (I.drop 192).take (needN l)=recsB mdI l/\ I.length=1024/\ Out 128 (128+sz) I mdI
theorem as_sto {L:List (Nat×List Nat)}{I:List Nat}{p r:Nat}{b:List Nat}{s:DevS}(hA:AS L I s)(hO:s.off=false)(hp:p+b.length<=s.ls.length*64)(hin:∀i,p<=i->i<p+b.length->InX L i)(hb:∀x∈b,x<256)(hr:Room (r+b.length) s):
    ∃e s2,sto (p:Nat) b s=(e,s2)/\ ((e=0/\ s2.off=false/\ AS L I s2/\ s2.ls.length=s.ls.length/\ Room r s2/\ imgS s2=spl (imgS s) p b)∨(e=5/\ s2.off=true/\ AS L I s2/\ s2.ls.length=s.ls.length)):=by
  by_cases hb0:b=[]
  . subst hb0;refine ⟨0,s, ?_,.inl ⟨rfl,hO,hA,rfl,λ l hl=>by have:=hr l hl;omega,(spl_nil _ _).symm⟩⟩
    simp only [List.length_nil] at hp
    unfold sto;rw [hO,rdy_ok oqz (by simp) (by simp only [List.length_nil];omega),if_neg (by decide)];exact storeF_nil _ _ _
  have hbl:0<b.length:=List.length_pos_iff.2 hb0;obtain ⟨e,s1,g1,g2⟩:=storeF_loss (X:=XU L I) b.length (p:=p) (r:=r) rfl hA.wf hO hb hr hp hA.poss (λ k j k0 k1 _ hj=>xu_spl hA hp hin k j k0 k1 hj)
  have hst:sto (p:Nat) b s=(e,s1):=by
    unfold sto;rw [hO,rdy_ok oqz oqz oqz,if_neg (by decide),Int.toNat_natCast];exact g1
  refine ⟨e,s1,hst, ?_⟩
  rcases g2 with ⟨a1,⟨a2,a3,a4,a5,a6⟩,a7,a8⟩|⟨a1,a2⟩
  . refine .inl ⟨a1,a2,⟨a3,by rw [a5];exact hA.len,a4,λ q ln hq hln=> ?_⟩,a5,a7,a8⟩
    by_cases hj:(q+1)*64<=p∨p+b.length<=q*64
    . rw [a6 q hj] at hln;exact hA.one q ln hq hln
    exact absurd (show max p (q*64)/64=q by omega) (hq (max p (q*64)) (hin _ oqz oqz))
  exact .inr ⟨a1,a2.1,as_lost a2 hA.len,a2.2.2.2.2⟩
theorem olds_mem {I:List Nat}{l:List (Int×Int)}{x:Nat×List Nat}(h:x∈oldsL I l):∃y∈l,x=(y.1.toNat,(I.drop y.1.toNat).take y.2.toNat):=by
  obtain ⟨y,hy,rfl⟩:=List.mem_map.1 h;exact ⟨y,hy,rfl⟩
theorem pair_eq {α β:Type}{x:α×β}{a c:α}{b d:β}(h1:x=(a,b))(h2:x=(c,d)):a=c/\ b=d:=by
  rw [h1] at h2;simpa using h2
def NoL (A:SP)(v:Value):Prop:=v= .pointer none∨∃b,v=(pz b)/\ Has A b (cl [.pointer none,.int .i64 0,.int .i64 0] 183)
theorem NoL.left {A X:SP}{v:Value}(h:NoL A v):NoL (A*X) v:=h.imp id λ ⟨b,e,hc⟩=>⟨b,e,has_left hc⟩
attribute [local irreducible] crk crL crc Sl pt ro Dev imgS recS readS recsF rdW rdO rkT Parts rvl recordsS mdI mdK rise mds writeS rollS
namespace Rg
end Rg
namespace Rg
end Rg
end Go.Vl

namespace Go.Vl
open Go Go.Proofs Go.Proofs.Tryz
def lst (xs:List Int)(i:Nat):List (Int×Int):=(xs.take i).map λ x=>((600:Int),1+x%90)
theorem xcl_nil:xcl []=[]:=rfl
def brN (x:Int×Int):Int:=1+(IntKind.i64.wrap (x.2-1))%40
def brX (x:Int×Int):Int×Int:=(if 256<=x.1∨x.1<0 then 512+x.1%(512-brN x+1) else 64+x.1%(64-brN x+1),brN x)
def brL (es:List (Int×Int))(i:Nat):List (Int×Int):=(es.take i).map brX
def fiveX (k:Nat):List (Int×Int):=(List.range k).map λ i:Nat=>((64:Int),1+(i:Int))
def PsR (A:SP)(L:List (Nat×List Nat))(vs:List Value):Prop:=∀k,k<L.length->∃b c,vs.getD k (.slice none 0 0)= .slice b (L.getD k (0,[])).2.length c/\ Rs A b (bys (L.getD k (0,[])).2)/\ (L.getD k (0,[])).2.length<=4294967296
theorem psr_of {A:SP}{L:List (Nat×List Nat)}{vs:List Value}(h1:vs.length=L.length)(h2:∀k,k<L.length->∃b c,vs.getD k (.slice none 0 0)= .slice b (L.getD k (0,[])).2.length c/\ (L.getD k (0,[])).2.length<=c)(h3:∀x∈L,x.2.length<=4294967296):PsR (A*Parts vs (L.map (·.2))) L vs:=λ k hk=>by
  obtain ⟨b,c,e,_⟩:=h2 k hk;exact ⟨b,c,e,parts_rsL h1 hk e A,h3 _ (getD_mem hk)⟩
theorem PsR.left {A X:SP}{L:List (Nat×List Nat)}{vs:List Value}(h:PsR A L vs):PsR (A*X) L vs:=λ k hk=>by
  obtain ⟨b,c,e,hr,hl⟩:=h k hk;exact ⟨b,c,e,hr.left,hl⟩
theorem kcl_nil:kcl [] []=[]:=rfl
theorem wfd_on {s:DevS}(h:WfD s):WfD { s with off:=false }:=⟨h.pos,h.top,h.line,h.arms,h.after,h.keeps⟩
def kpR (kp:List Int)(i:Nat):List Int:=(kp.take i).map λ x=>x%1000
theorem rda_one {A:SP}{b a:Option Addr}{n c:Nat}{af:Int}{k:List Int}(h1:Rs A b [.int .i64 af,.slice a n c])(h2:Rs A a (ints k))(hn:k.length=n)(hc:n<=c):RdA A b [.slice a n c] [(af,k)]:=
  ⟨h1,rfl,λ i hi=>by
    match i,hi with
    |0,_=>exact ⟨a,c,by rw [←hn];rfl,by show k.length<=c;omega,h2⟩⟩
theorem flatG {α:Type}{f:α->List Value}:∀{Cs:List (List Value)} {xs:List α} (_:Cs.length=xs.length) (_:∀i (h:i<xs.length) (h':i<Cs.length),Cs[i]=f xs[i]),Cs.flatten=xs.flatMap f
  |[],[],_,_=>rfl
  |c::Cs,x::xs,hl,h=>by
    have h0:=h 0 (by simp) (by simp)
    simp only [List.getElem_cons_zero] at h0
    rw [List.flatten_cons,h0,flatG (f:=f) (Cs:=Cs) (xs:=xs) (by simpa using hl) (λ i hi hi'=>h (i+1) (by simpa using hi) (by simpa using hi')),List.flatMap_cons]
theorem two_ofG {α:Type}:∀{l:List α},l.length=2->∃a b,l=[a,b]
  |[a,b],_=>⟨a,b,rfl⟩
theorem reach_n {n k m:Nat}(h:n*k<=reachBytes)(hm:140737488355328<=m*k:=by decide)(hk:0<k:=by decide):n<=m:=by
  have h1:reachBytes<=140737488355328:=(by decide);exact Nat.le_of_mul_le_mul_right (Nat.le_trans h (Nat.le_trans h1 hm)) hk
def PXts (A:SP)(cs:List Value)(es:List (Int×Int)):Prop:=∃a c,cs=[.slice a es.length c]/\ es.length<=c/\ es.length<=8796093022208/\ Rs A a (xcl es)/\∀x∈es,XW x
structure Ar1 where
  af:Int
  a:Option Addr
  c:Nat
  kp:List Int
def Ar1.cells (x:Ar1):List Value:=[.int .i64 x.af,.slice x.a x.kp.length x.c]
theorem rdb_ar (W:World):Rdb Tryz.prog W 94 (λ cs (x:Ar1)=>cs=x.cells/\ x.kp.length<=x.c/\ x.kp.length<=17592186043904/\ Rs (old W) x.a (ints x.kp)/\ (-9223372036854775808<=x.af/\ x.af<=9223372036854775807)/\∀k∈x.kp,-9223372036854775808<=k/\ k<=9223372036854775807):=λ H enc sp hd fu cs d pl h hw=>by
  obtain ⟨hl,hf⟩:=rdb_fields underlying94 h hw;have hc:Tryz.prog.cellsOf 94=2:=(by kernel_rfl);have hci:Tryz.prog.cellsOf 3=1:=(by kernel_rfl);have hck:Tryz.prog.cellsOf 22=1:=(by kernel_rfl);rw [hc] at hl
  obtain ⟨af,e0,w0⟩:=hf 0 _ rfl (rdb_int underlying3);obtain ⟨kp,ka,kc,e1,g1,g2,r1,l1⟩:=hf 1 _ rfl (rdb_ints underlying22 underlying3 kqz kqz);obtain ⟨c0,c1,rfl⟩:=two_ofG hl
  simp [hci] at e0
  simp [hck] at e1
  subst e0 e1;exact ⟨⟨af,ka,kc,kp⟩,rfl,g1,g2,r1,i64_wf w0,l1⟩
theorem acs_mapG:∀ (xs:List Ar1),acs (xs.map λ x=> .slice x.a x.kp.length x.c) (xs.map λ x=>(x.af,x.kp))=xs.flatMap Ar1.cells
  |[]=>rfl
  |x::xs=>by
    simp only [List.map_cons,List.flatMap_cons]
    show _::_::acs _ _=_
    rw [acs_mapG xs];rfl
def PArs (A:SP)(cs:List Value)(p:List Value×List (Int×List Int)):Prop:=∃a c,cs=[.slice a p.2.length c]/\ p.2.length<=c/\ p.2.length<=4398046511104/\ RdA A a p.1 p.2/\∀x∈p.2,(-9223372036854775808<=x.1/\ x.1<=9223372036854775807)/\ x.2.length<=17592186043904/\∀k∈x.2,-9223372036854775808<=k/\ k<=9223372036854775807
theorem rdb_ars (W:World):Rdb Tryz.prog W 23 (PArs (old W)):=
  (rdb_slice (k:=2) (b:=32) underlying23 kqz kqz (by decide) (rdb_ar W)).mono λ cs xs ⟨a,cap,Cs,e1,hc,hs,hl,hx,hr⟩=>by
    have e2:Cs.flatten=xs.flatMap Ar1.cells:=flatG hl λ i h h'=>(hx i h h').2.1
    refine ⟨(xs.map λ x=> .slice x.a x.kp.length x.c,xs.map λ x=>(x.af,x.kp)),⟨a,cap,by simpa using e1,by simpa using hc,by simpa using reach_n (m:=4398046511104) hs,⟨?_,by simp,λ i hi=> ?_⟩,λ x hx'=> ?_⟩⟩
    . rw [acs_mapG,←e2];exact hr
    . have hi':i<xs.length:=(by simpa using hi);have:=(hx i hi' oqz).2;exact ⟨xs[i].a,xs[i].c,by simp [hi'],by simpa using this.2.1,by simpa using this.2.2.2.1⟩
    obtain ⟨y,hy,rfl⟩:=List.mem_map.1 hx';obtain ⟨i,hi,rfl⟩:=List.mem_iff_getElem.1 hy;have:=(hx i hi oqz).2;exact ⟨this.2.2.2.2.1,this.2.2.1,this.2.2.2.2.2⟩
structure Chg where
  q:Int
  p:Int
  a:Option Addr
  c:Nat
  b:List Nat
  fl:Bool
  fe:Bool
def Chg.cells (x:Chg):List Value:=[.int .i64 x.q,.int .i64 x.p,.slice x.a x.b.length x.c,.bool x.fl,.bool x.fe]
structure ChgW (A:SP) (x:Chg):Prop where
  q:(-9223372036854775808<=x.q/\ x.q<=9223372036854775807)
  p:(-9223372036854775808<=x.p/\ x.p<=9223372036854775807)
  cap:x.b.length<=x.c
  len:x.b.length<=140737488351232
  rs:Rs A x.a (bys x.b)
  by_:∀y∈x.b,y<256
theorem ChgW.left {A X:SP}{x:Chg}(h:ChgW A x):ChgW (A*X) x:=⟨h.q,h.p,h.cap,h.len,h.rs.left,h.by_⟩
def chl (l:List Chg):List Value:=l.flatMap Chg.cells
def PChs (A:SP)(cs:List Value)(l:List Chg):Prop:=∃a c,cs=[.slice a l.length c]/\ l.length<=c/\ l.length<=2932031007403/\ Rs A a (chl l)/\∀x∈l,ChgW A x
structure Stx where
  es:List (Int×Int)
  ch:List Chg
  kvs:List Value
  ars:List (Int×List Int)
  lg:Bool
def PSto (A:SP)(cs:List Value)(t:Stx):Prop:=∃v1 v2 v3,cs=[v1,v2,v3,.bool t.lg]/\ PXts A [v1] t.es/\ PChs A [v2] t.ch/\ PArs A [v3] (t.kvs,t.ars)
theorem backS_phi (x:Nat×List Nat)(s:DevS):phi (backS x s).2<=phi s:=by
  unfold backS
  have h1:=sto_phi (x.1:Nat) x.2 s
  split
  . exact h1
  exact Nat.le_trans (flL_phi _ _ _) h1
theorem backF_phi:∀ (l:List (Nat×List Nat)) (s:DevS),phi (backF l s).2<=phi s
  |[],s=>Nat.le_refl _
  |x::l,s=>by
    have h1:=backS_phi x s
    show phi (if (backS x s).1≠0 then backS x s else backF l (backS x s).2).2<=_
    split
    . exact h1
    exact Nat.le_trans (backF_phi l _) h1
theorem rollS_phi (at_ sz:Nat)(s:DevS):phi (rollS at_ sz s).2<=phi s:=by
  unfold rollS
  have h1:=backF_phi (recordsS at_ sz s).1.reverse s;have h2:=Nat.le_trans (fe_phi (backF (recordsS at_ sz s).1.reverse s).2) h1;have h3:=Nat.le_trans (pubP_phi (at_:Nat) 0 (fe (backF (recordsS at_ sz s).1.reverse s).2).2) h2
  split
  . exact Nat.le_refl _
  split
  . exact h1
  split
  . exact h2
  split
  . exact h3
  exact h3
def XIn (x:Int×Int):Prop:=1<=x.2/\ x.2<=40/\ ((64<=x.1/\ x.1+x.2<=128)∨(512<=x.1/\ x.1+x.2<=1024))
structure CSt (X:List (Int×Int)) (I:List Nat) (r:Nat) (s:DevS):Prop where
  ast:AS (oldsL mdI X) I s
  len:s.ls.length=16
  room:Room r s
structure Clr (I:List Nat) (s:DevS):Prop where
  wf:WfD s
  cln:Cln s
  img:imgS s=spl I 128 (le 8 0)
  len:s.ls.length=16
structure Trn (X:List (Int×Int)) (I:List Nat) (s:DevS):Prop where
  room:Room 385 s
  ast:(X≠[]/\ AS (oldsL mdI X) I s/\ s.ls.length=16)∨Clr I s
def Ar1.pr (x:Ar1):Int×List Int:=(x.af,x.kp)
def ownR (x:Ar1):SP:=Sl 1 (.slice x.a x.kp.length x.c) x.kp.length (ints x.kp)
def brA (x:Int×List Int):Int×List Int:=(1+x.1%60,x.2.map λ k=>k%1000)
structure ArP (xs:List Ar1) (ars:List (Int×List Int)):Prop where
  mp:xs.map Ar1.pr=ars.map brA
  cp:∀x∈xs,x.kp.length<=x.c
def ArB (a:Option Addr)(c n:Nat)(xs:List Ar1):SP:=Sl 2 (.slice a n c) n (xs.flatMap Ar1.cells)*Bs ownR xs
structure ChgV (A:SP) (x:Chg):Prop where
  q: -9223372036854775808<=x.q/\ x.q<=9223372036854775807
  p: -9223372036854775808<=x.p/\ x.p<=9223372036854775807
  cap:x.b.length<=x.c
  rs:Rs A x.a (bys x.b)
  by_:∀y∈x.b,y<256
theorem ChgV.left {A X:SP}{x:Chg}(h:ChgV A x):ChgV (A*X) x:=⟨h.q,h.p,h.cap,h.rs.left,h.by_⟩
def ArOk (ars:List (Int×List Int)):Prop:=∀x∈ars,(-9223372036854775808<=x.1/\ x.1<=9223372036854775807)/\ x.2.length<=1099511627776/\∀k∈x.2,-9223372036854775808<=k/\ k<=9223372036854775807
theorem phi_arms (s:DevS):s.arms.length<=phi s:=Nat.le_add_right _ _
def PXtU (A:SP)(cs:List Value)(es:List (Int×Int)):Prop:=∃a c,cs=[.slice a es.length c]/\ es.length<=c/\ Rs A a (xcl es)/\∀x∈es,XW x
def PArU (A:SP)(cs:List Value)(p:List Value×List (Int×List Int)):Prop:=∃a c,cs=[.slice a p.2.length c]/\ p.2.length<=c/\ RdA A a p.1 p.2/\∀x∈p.2,(-9223372036854775808<=x.1/\ x.1<=9223372036854775807)/\∀k∈x.2,-9223372036854775808<=k/\ k<=9223372036854775807
def PChU (A:SP)(cs:List Value)(l:List Chg):Prop:=∃a c,cs=[.slice a l.length c]/\ l.length<=c/\ Rs A a (chl l)/\∀x∈l,ChgV A x
def PStU (A:SP)(cs:List Value)(t:Stx):Prop:=∃v1 v2 v3,cs=[v1,v2,v3,.bool t.lg]/\ PXtU A [v1] t.es/\ PChU A [v2] t.ch/\ PArU A [v3] (t.kvs,t.ars)
def Stx.sz (t:Stx):Nat:=t.es.length+(t.ch.map λ x=>x.b.length+1).sum+(t.ars.map λ x=>x.2.length+1).sum
def GrK (k:Nat)(v:Value)(n:Nat)(xs:List Value)(v':Value)(m:Nat)(ys:List Value):SP:=λ h=>
  (∃a c,v= .slice a n c/\ v'= .slice a m c/\ n<=m/\ xs=ys.take (n*k)/\ Sl k v' m ys h)∨(Sl k v n xs*Sl k v' m ys) h
def ilv {α:Type}:List α->List α->List α
  |x::xs,y::ys=>x::y::ilv xs ys
  |_,_=>[]
def pc (x:Int×Value):List Value:=[.int .i64 x.1,x.2]
def pcl (l:List (Int×Value)):List Value:=l.flatMap pc
def rpl (n:Nat)(k:Int):List (Int×Value):=List.replicate n (k,.slice none 0 0)
def kz:List (Nat×List Nat)->List Value->List (Int×Value)
  |x::l,v::vs=>((x.1:Nat),v)::kz l vs
  |_,_=>[]
def lnK (q k:Nat):List Int:=(List.range k).map λ j=>((q+j:Nat):Int)
attribute [local irreducible] crk crL crc Sl pt ro Dev RDev imgS recS
end Go.Vl

namespace Go.Vl
open Go Go.Proofs Go.Proofs.Tryz
def sizedL (n:Nat)(xs:List Nat):List Nat:=xs.take n++List.replicate (n-xs.length) 0
structure WdC where
  a:Option Addr
  c:Nat
  b:List Nat
  q:Int
  v:Int
  af:Int
  kq:Int
def WdC.cells (t:WdC):List Value:=[.slice t.a t.b.length t.c,.int .i64 t.q,.int .u64 t.v,.int .i64 t.af,.int .i64 t.kq]
def PWord (A:SP)(cs:List Value)(t:WdC):Prop:=cs=t.cells/\ Rs A t.a (bys t.b)/\ (∀x∈t.b,x<256)/\ t.b.length<=t.c/\ t.b.length<=140737488351232/\ 0<=t.v/\ t.v<18446744073709551616
structure Gd (n k:Nat) (s:DevS):Prop where
  len:s.ls.length=n
  room:Room k s
  wf:WfD s
theorem Gd.le {n a b:Nat}{s:DevS}(h:Gd n a s)(hab:b<=a):Gd n b s:=⟨h.len,room_le h.room hab,h.wf⟩
theorem fe_len (s:DevS):(fe s).2.ls.length=s.ls.length:=by
  unfold fe
  split
  . rfl
  rw [doneS_len];simp [fenceS]
theorem flF_len:∀ (k q:Nat) (s:DevS),(flF k q s).2.ls.length=s.ls.length
  |0,q,s=>by rw [flF_zero];exact fe_len s
  |k+1,q,s=>by
    show (if (fl1 ((q*64:Nat):Int) s).1≠0 then fl1 ((q*64:Nat):Int) s else flF k (q+1) (fl1 ((q*64:Nat):Int) s).2).2.ls.length=_
    split
    . exact fl1_len _ _
    rw [flF_len k];exact fl1_len _ _
theorem gd_flF {n k:Nat}(j q:Nat){s:DevS}(h:Gd n k s):Gd n k (flF j q s).2:=⟨(flF_len _ _ _).trans h.len,(flF_room _ _ _ h.wf h.room).1,(flF_room _ _ _ h.wf h.room).2⟩
theorem gd_fe {n k:Nat}{s:DevS}(h:Gd n k s):Gd n k (fe s).2:=by rw [←flF_zero 0];exact gd_flF 0 0 h
theorem gd_range {n k:Nat}{p m:Int}{s:DevS}(h:Gd n k s):Gd n k (rangeP p m s).2:=by
  unfold rangeP
  split
  . exact h
  split
  . exact h
  split
  . exact h
  exact gd_flF _ _ h
theorem gd_pub {n k v:Nat}{p:Int}{s:DevS}(h:Gd n (k+1) s)(hv:v<18446744073709551616):Gd n k (pubP p v s).2:=by
  have h1:Gd n k (st8 p v s).2:=⟨(st8_len _ _ _).trans h.len,st8_room (e:=(st8 p v s).1) rfl h.wf hv h.room,st8_wf (e:=(st8 p v s).1) rfl h.wf hv (room_le h.room oqz)⟩
  unfold pubP
  split
  . exact h1
  exact gd_flF _ _ h1
theorem gd_sto {n k:Nat}{p:Int}{b:List Nat}{s:DevS}(h:Gd n (k+b.length) s)(hb:∀x∈b,x<256):Gd n k (sto p b s).2:=
  ⟨(sto_len _ _ _).trans h.len,sto_room (e:=(sto p b s).1) rfl h.wf hb h.room,sto_wf h.wf hb (room_le h.room oqz)⟩
theorem gd_putF {n k at_ sz:Nat}:∀{l:List (Int×Int)} {p:Nat} {s:DevS},l.all (mayX (n*64) at_ sz)=true->Gd n (k+needN l) s->Gd n k (putF p l s).2
  |[],p,s,_,h=>h.le oqz
  |x::l,p,s,ha,h=>by
    rw [List.all_cons,Bool.and_eq_true] at ha
    obtain ⟨q,m,rfl,y1,y2,y3,y4⟩:=may_nat ha.1;rw [needN_cons] at h
    simp only [Int.toNat_natCast] at h
    have hil:=imgS_len h.wf;have hln:=h.len;have hol:(((imgS s).drop q).take m).length=m:=(by rw [List.length_take,List.length_drop];omega);have hrl:(recS q (((imgS s).drop q).take m)).length=24+up8 m:=(by rw [recS_len,hol]);have h1:Gd n (k+needN l) (sto (p:Nat) (recS q (((imgS s).drop q).take m)) s).2:=gd_sto (h.le (by rw [hrl];omega)) (recS_b img_sub)
    show Gd n k (if (sto (p:Nat) (recS q (((imgS s).drop q).take m)) s).1≠0 then sto (p:Nat) (recS q (((imgS s).drop q).take m)) s else putF (p+(24+up8 m)) l (sto (p:Nat) (recS q (((imgS s).drop q).take m)) s).2).2
    split
    . exact h1.le oqz
    exact gd_putF ha.2 h1
theorem gd_write {n k at_ sz:Nat}{l:List (Int×Int)}{s:DevS}(h:Gd n (sz+1+k) s)(hl:l.length<18446744073709551616):Gd n k (writeS at_ sz l s).2:=by
  unfold writeS
  split
  . exact h.le oqz
  split
  . exact h.le oqz
  split
  . exact h.le oqz
  rename_i hall
  split
  . exact h.le oqz
  rename_i hful
  split
  . exact h.le oqz
  have ha:l.all (mayX (s.ls.length*64) at_ sz)=true:=(by simpa using hall)
  have hx1:∀x∈l,1<=x.2:=λ x hx=>by
    obtain ⟨p,m,rfl,_,hn,_⟩:=may_nat (List.all_eq_true.1 ha x hx);show (1:Int)<=(m:Int);omega
  obtain ⟨nd,en,hnd⟩:∃nd en,needS (lensX l)=(nd,en):=⟨_,_,rfl⟩;rw [hnd] at hful
  simp only [] at hful
  have hN:=needF_ok hx1 hnd oqz;have h1:Gd n (k+1) (putF (at_+64) l s).2:=gd_putF (by rw [←h.len];exact ha) (h.le oqz)
  split
  . exact h1.le oqz
  have h2:=gd_range (p:=((at_+64:Nat):Int)) (m:=(needS (lensX l)).1) h1
  split
  . exact h2.le oqz
  exact gd_pub h2 hl
theorem gd_clear {n k at_:Nat}{s:DevS}(h:Gd n (k+1) s):Gd n k (clearS at_ s).2:=by
  unfold clearS
  split
  . exact h.le oqz
  exact gd_pub h (by decide)
theorem back_wf {x:Nat×List Nat}{s:DevS}(hw:WfD s)(hb:∀b∈x.2,b<256)(hr:Room x.2.length s):WfD (backS x s).2:=by
  have h1:=sto_wf (p:=(x.1:Nat)) hw hb hr
  unfold backS
  split
  . exact h1
  unfold flushX;exact flL_wf _ h1
theorem gd_backF {n k:Nat}:∀{L:List (Nat×List Nat)} {s:DevS},(∀x∈L,∀b∈x.2,b<256)->Gd n (k+sumL L) s->Gd n k (backF L s).2
  |[],s,_,h=>h.le oqz
  |x::l,s,hb,h=>by
    rw [sumL_cons] at h
    have hbx:=hb x (by simp);have h1:Gd n (k+sumL l) (backS x s).2:=⟨(back_len _ _).trans h.len,back_room (e:=(backS x s).1) rfl h.wf hbx (room_le h.room oqz),back_wf h.wf hbx (room_le h.room oqz)⟩
    show Gd n k (if (backS x s).1≠0 then backS x s else backF l (backS x s).2).2
    split
    . exact h1.le oqz
    exact gd_backF (λ y hy=>hb y (List.mem_cons_of_mem _ hy)) h1
theorem gd_roll {n k at_ sz:Nat}{s:DevS}(h:Gd n (sz+1+k) s)(hlw:LogW (s.ls.length*64) at_ sz):Gd n k (rollS at_ sz s).2:=by
  obtain ⟨L,e,hL⟩:∃L e,recordsS at_ sz s=(L,e):=⟨_,_,rfl⟩
  by_cases h0:e≠0∨L=[]
  . rw [roll_no hL h0];exact h.le oqz
  obtain rfl:e=0:=by omega
  have hne:L≠[]:=λ e9=>h0 (.inr e9)
  obtain ⟨hrk,hrs⟩:=records_ok h.wf hlw hL;have h1:Gd n (k+1) (backF L.reverse s).2:=gd_backF (λ x hx=>(hrk x (List.mem_reverse.1 hx)).2) (h.le (by rw [sumL_rev];omega))
  by_cases c1:(backF L.reverse s).1=0
  . by_cases c2:(fe (backF L.reverse s).2).1=0
    . have h2:=gd_fe h1;have h3:Gd n k (pubP (at_:Nat) 0 (fe (backF L.reverse s).2).2).2:=gd_pub h2 (by decide)
      by_cases c3:(pubP (at_:Nat) 0 (fe (backF L.reverse s).2).2).1=0
      . rw [roll_o hL hne (Prod.ext c1 rfl) (Prod.ext c2 rfl) (Prod.ext c3 rfl)];exact h3
      rw [roll_p hL hne (Prod.ext c1 rfl) (Prod.ext c2 rfl) (e:=(pubP (at_:Nat) 0 (fe (backF L.reverse s).2).2).1) rfl c3];exact h3
    rw [roll_f hL hne (Prod.ext c1 rfl) (e:=(fe (backF L.reverse s).2).1) rfl c2];exact (gd_fe h1).le oqz
  rw [roll_b hL hne (e:=(backF L.reverse s).1) rfl c1];exact h1.le oqz
abbrev TF:=Nat->Option (Nat×Bool)
def tf0:TF:=λ _=>none
def layF (p:Nat)(xs:List Nat)(fr:Bool)(f:TF):TF:=λ a=>if p<=a/\ a<p+xs.length then some (xs.getD (a-p) 0,((f a).map (·.2)).getD fr) else f a
def byF (f:TF)(a:Nat):Nat:=((f a).map (·.1)).getD 0
def isK (f:TF)(k:Bool)(a:Nat):Bool:=decide ((f a).map (·.2)=some k)
def adrF (n:Nat)(k:Bool)(f:TF):List Nat:=(List.range n).filter (isK f k)
def runA (f:TF)(out:List (Nat×List Nat))(a:Nat):List (Nat×List Nat):=
  match out.getLast? with
  |some r=>if r.1+r.2.length=a then out.dropLast++[(r.1,r.2++[byF f a])] else out++[(a,[byF f a])]
  |none=>[(a,[byF f a])]
def runsL (f:TF)(l:List Nat):List (Nat×List Nat):=l.foldl (runA f) []
def runsF (n:Nat)(k:Bool)(f:TF):List (Nat×List Nat):=runsL f (adrF n k f)
def extX (l:List (Nat×List Nat)):List (Int×Int):=l.map λ r=>((r.1:Int),(r.2.length:Int))
def ovF (f:TF)(p:Nat)(xs:List Nat):List Nat:=xs.mapIdx λ i x=>((f (p+i)).map (·.1)).getD x
theorem ovF_len (f:TF)(p:Nat)(xs:List Nat):(ovF f p xs).length=xs.length:=by simp [ovF]
def stoL:List (Nat×List Nat)->DevS->Int×DevS
  |[],s=>(0,s)
  |r::l,s=>if (sto (r.1:Nat) r.2 s).1≠0 then sto (r.1:Nat) r.2 s else stoL l (sto (r.1:Nat) r.2 s).2
def linR:List (Nat×List Nat)->Nat->List Nat
  |[],_=>[]
  |r::l,d=>(List.range ((r.1+r.2.length-1)/64+1-max (r.1/64) d)).map (λ j=>max (r.1/64) d+j)++linR l (max d ((r.1+r.2.length-1)/64+1))
def flLs:List Nat->DevS->Int×DevS
  |[],s=>(0,s)
  |q::l,s=>if (fl1 ((q*64:Nat):Int) s).1≠0 then fl1 ((q*64:Nat):Int) s else flLs l (fl1 ((q*64:Nat):Int) s).2
def writeT (l:List (Nat×List Nat))(s:DevS):Int×DevS:=if (stoL l s).1≠0 then stoL l s else flLs (linR l 0) (stoL l s).2
def comS (at_ sz n:Nat)(f:TF)(s:DevS):(Int×Bool)×DevS:=
  if (writeT (runsF n true f) s).1≠0 then (((writeT (runsF n true f) s).1,true),(writeT (runsF n true f) s).2)
  else if runsF n false f=[] then
    if runsF n true f=[] then ((0,true),(writeT (runsF n true f) s).2) else (((fe (writeT (runsF n true f) s).2).1,true),(fe (writeT (runsF n true f) s).2).2)
  else if (writeS at_ sz (extX (runsF n false f)) (writeT (runsF n true f) s).2).1≠0 then
    (((writeS at_ sz (extX (runsF n false f)) (writeT (runsF n true f) s).2).1,decide ((writeS at_ sz (extX (runsF n false f)) (writeT (runsF n true f) s).2).1=5)),(writeS at_ sz (extX (runsF n false f)) (writeT (runsF n true f) s).2).2)
  else if (writeT (runsF n false f) (writeS at_ sz (extX (runsF n false f)) (writeT (runsF n true f) s).2).2).1≠0 then
    (((writeT (runsF n false f) (writeS at_ sz (extX (runsF n false f)) (writeT (runsF n true f) s).2).2).1,true),(writeT (runsF n false f) (writeS at_ sz (extX (runsF n false f)) (writeT (runsF n true f) s).2).2).2)
  else if (fe (writeT (runsF n false f) (writeS at_ sz (extX (runsF n false f)) (writeT (runsF n true f) s).2).2).2).1≠0 then
    (((fe (writeT (runsF n false f) (writeS at_ sz (extX (runsF n false f)) (writeT (runsF n true f) s).2).2).2).1,true),(fe (writeT (runsF n false f) (writeS at_ sz (extX (runsF n false f)) (writeT (runsF n true f) s).2).2).2).2)
  else (((clearS at_ (fe (writeT (runsF n false f) (writeS at_ sz (extX (runsF n false f)) (writeT (runsF n true f) s).2).2).2).2).1,true),(clearS at_ (fe (writeT (runsF n false f) (writeS at_ sz (extX (runsF n false f)) (writeT (runsF n true f) s).2).2).2).2).2)
def encC (c:Nat×Bool):Value:= .agg #[.int .u8 (c.1:Nat),.bool c.2]
structure MF (M:MS) (n:Nat) (f:TF):Prop where
  wf:WfM M
  get:∀a:Nat,M.get (a:Int)=(f a).map encC
  keys:∀e∈M.D,∃a:Nat,a<n/\ e.k=(a:Int)
  out:∀a,n<=a->f a=none
  by_:∀a c,f a=some c->c.1<256
theorem mf_nil (c n:Nat):MF ⟨[],c⟩ n tf0:=⟨⟨(by simp),(by simp),λ e h=>(by cases h)⟩,λ a=>rfl,λ e h=>(by cases h),λ _ _=>rfl,λ a c h=>(by cases h)⟩
theorem layF_nil (p:Nat)(fr:Bool)(f:TF):layF p [] fr f=f:=by
  funext a;unfold layF;rw [if_neg (by simp only [List.length_nil];omega)]
theorem layF_snoc {p:Nat}{xs:List Nat}{x:Nat}{fr:Bool}{f:TF}:layF p (xs++[x]) fr f=λ a=>if a=p+xs.length then some (x,((layF p xs fr f a).map (·.2)).getD fr) else layF p xs fr f a:=by
  funext a
  unfold layF
  simp only [List.length_append,List.length_singleton]
  by_cases h:a=p+xs.length
  . subst h;rw [if_pos oqz,if_pos rfl,if_neg oqz,show p+xs.length-p=xs.length by omega]
    simp [List.getD]
  rw [if_neg h]
  by_cases h2:p<=a/\ a<p+xs.length
  . rw [if_pos oqz,if_pos h2]
    congr 2
    simp only [List.getD_eq_getElem?_getD]
    rw [List.getElem?_append_left oqz]
  rw [if_neg oqz,if_neg h2]
theorem mf_put {M:MS}{n a:Nat}{f:TF}{x:Nat}{b:Bool}(h:MF M n f)(ha:a<n)(hx:x<256):MF (M.put (a:Int) (encC (x,b))) n (λ c=>if c=a then some (x,b) else f c):=by
  refine ⟨wfM_put h.wf,λ c=> ?_,λ e he=> ?_,λ c hc=> ?_,λ c v hv=> ?_⟩
  . rw [MS.get_put]
    by_cases hc:c=a
    . subst hc;rw [if_pos rfl];simp
    rw [if_neg oqz,if_neg hc];exact h.get c
  . unfold MS.put at he
    split at he
    . rename_i i u hf
      have hk:∃e'∈M.D,e'.k=e.k:=by
        obtain ⟨j,hj,rfl⟩:=List.mem_iff_getElem.1 he
        simp only [List.length_modify] at hj
        refine ⟨M.D[j],List.getElem_mem _, ?_⟩
        simp only [List.getElem_modify]
        split<;>rfl
      obtain ⟨e',h1,h2⟩:=hk;rw [←h2];exact h.keys e' h1
    rcases List.mem_append.1 he with he|he
    . exact h.keys e he
    rw [List.mem_singleton.1 he];exact ⟨a,ha,rfl⟩
  . simp only [if_neg (show c≠a by omega)];exact h.out c hc
  by_cases hc:c=a
  . simp only [if_pos hc,Option.some.injEq] at hv;rw [←hv];exact hx
  simp only [if_neg hc] at hv;exact h.by_ c v hv
theorem mfind_mem:∀{D:List ME} {e:ME},(D.map ME.k).Nodup->e∈D->∃i,mfind D e.k 0=some (i,e.v)
  |x::D,e,hn,he=>by
    simp only [List.map_cons,List.nodup_cons] at hn
    rw [mfind_cons]
    rcases List.mem_cons.1 he with rfl|he
    . exact ⟨0,by rw [if_pos rfl]⟩
    have hne:e.k≠x.k:=λ h=>hn.1 (h▸List.mem_map_of_mem he)
    obtain ⟨i,hi⟩:=mfind_mem hn.2 he;exact ⟨i+1,by rw [if_neg hne,mfind_i,hi];rfl⟩
theorem get_mem {M:MS}{e:ME}(hw:WfM M)(he:e∈M.D):M.get e.k=some e.v:=by
  obtain ⟨i,hi⟩:=mfind_mem hw.keys he
  unfold MS.get;rw [hi];rfl
theorem mfind_has:∀{D:List ME} {a:Int} {i:Nat} {v:Value},mfind D a 0=some (i,v)->∃e∈D,e.k=a/\ e.v=v:=λ {D a i v} h=>by
  obtain ⟨hi,h1,h2⟩:=mfind_some h;exact ⟨D[i],List.getElem_mem hi,h1,h2⟩
theorem mf_val {M:MS}{n:Nat}{f:TF}{e:ME}(h:MF M n f)(he:e∈M.D):∃a c,a<n/\ e.k=((a:Nat):Int)/\ f a=some c/\ e.v=encC c:=by
  obtain ⟨a,ha,hk⟩:=h.keys e he;have h1:=get_mem h.wf he;rw [hk,h.get a] at h1
  cases hf:f a with
  |none=>rw [hf] at h1;cases h1
  |some c=>rw [hf] at h1;simp only [Option.map_some,Option.some.injEq] at h1;exact ⟨a,c,ha,hk,hf,h1.symm⟩
theorem mf_has {M:MS}{n a:Nat}{f:TF}{c:Nat×Bool}(h:MF M n f)(hf:f a=some c):∃e∈M.D,e.k=((a:Nat):Int)/\ e.v=encC c:=by
  have h1:=h.get a;rw [hf] at h1
  unfold MS.get at h1
  cases hm:mfind M.D (a:Int) 0 with
  |none=>rw [hm] at h1;cases h1
  |some p=>
    rw [hm] at h1
    simp only [Option.map_some,Option.some.injEq] at h1
    obtain ⟨e,he,h2,h3⟩:=mfind_has (i:=p.1) (v:=p.2) hm;exact ⟨e,he,h2,h3.trans h1⟩
def kys (f:TF)(k:Bool)(l:List ME):List Int:=(l.filter λ e=>isK f k e.k.toNat).map ME.k
theorem kys_nil (f:TF)(k:Bool):kys f k []=[]:=rfl
theorem kys_snoc (f:TF)(k:Bool)(l:List ME)(e:ME):kys f k (l++[e])=kys f k l++(if isK f k e.k.toNat then [e.k] else []):=by
  unfold kys
  rw [List.filter_append,List.map_append]
  congr 1
  simp only [List.filter_cons,List.filter_nil]
  split<;>rfl
theorem kys_len (f:TF)(k:Bool)(l:List ME):(kys f k l).length<=l.length:=by unfold kys;rw [List.length_map];exact List.length_filter_le _ _
theorem adr_mem {n:Nat}{k:Bool}{f:TF}{a:Nat}:a∈adrF n k f↔a<n/\ isK f k a=true:=by unfold adrF;rw [List.mem_filter,List.mem_range]
theorem adr_sorted (n:Nat)(k:Bool)(f:TF):(adrF n k f).Pairwise (·<·):=(List.pairwise_lt_range).filter _
theorem kys_sort {M:MS}{n:Nat}{f:TF}{k:Bool}{vis:List ME}(h:MF M n f)(hv:vis.Perm M.D):(kys f k vis).mergeSort (λ x y=>decide (x<=y))=(adrF n k f).map λ a:Nat=>(a:Int):=by
  have hp1:((kys f k vis).mergeSort (λ x y=>decide (x<=y))).Perm ((adrF n k f).map λ a:Nat=>(a:Int)):=by
    refine (List.mergeSort_perm _ _).trans ?_;refine (List.perm_ext_iff_of_nodup ?_ ?_).2 λ x=> ?_
    . unfold kys
      exact ((hv.map ME.k).nodup_iff.2 h.wf.keys).sublist (List.filter_sublist.map ME.k)
    . refine List.Pairwise.map _ (λ a b hab e=> ?_) (adr_sorted n k f)
      omega
    unfold kys
    simp only [List.mem_map,List.mem_filter]
    constructor
    . rintro ⟨e,⟨he,hk⟩,rfl⟩;obtain ⟨a,c,ha,hka,hf,_⟩:=mf_val h (hv.mem_iff.1 he);rw [hka,Int.toNat_natCast] at hk
      exact ⟨a,adr_mem.2 ⟨ha,hk⟩,hka.symm⟩
    rintro ⟨a,ha,rfl⟩;obtain ⟨h1,h2⟩:=adr_mem.1 ha;have h3:=of_decide_eq_true h2
    cases hf:f a with
    |none=>rw [hf] at h3;cases h3
    |some c=>
      obtain ⟨e,he,hk,_⟩:=mf_has h hf;exact ⟨e,⟨hv.mem_iff.2 he,by rw [hk,Int.toNat_natCast];exact h2⟩,hk⟩
  have hs1:((kys f k vis).mergeSort (λ x y=>decide (x<=y))).Pairwise (·<=·):=by
    have:=List.pairwise_mergeSort (le:=λ x y:Int=>decide (x<=y)) (λ a b c h1 h2=>decide_eq_true (Int.le_trans (of_decide_eq_true h1) (of_decide_eq_true h2))) (λ a b=>by simp only [Bool.or_eq_true,decide_eq_true_eq];omega) (kys f k vis);exact this.imp λ h=>of_decide_eq_true h
  have hs2:((adrF n k f).map λ a:Nat=>(a:Int)).Pairwise (·<=·):=List.Pairwise.map _ (λ a b hab=>by omega) (adr_sorted n k f);exact hp1.eq_of_pairwise (λ a b _ _ h1 h2=>Int.le_antisymm h1 h2) hs1 hs2
theorem mf_len {M:MS}{n:Nat}{f:TF}(h:MF M n f):M.D.length<=n:=by
  have h1:(M.D.map λ e=>e.k.toNat).Nodup:=by
    refine List.pairwise_map.2 ?_;refine List.Pairwise.imp_of_mem (λ {x y} hx hy hne=> ?_) (List.pairwise_map.1 h.wf.keys);obtain ⟨a,_,h2⟩:=h.keys x hx;obtain ⟨b,_,h3⟩:=h.keys y hy
    omega
  have h3:=List.Nodup.length_le_of_subset h1 (l₂:=List.range n) λ x hx=>by
    obtain ⟨e,he,rfl⟩:=List.mem_map.1 hx;obtain ⟨a,ha,hk⟩:=h.keys e he;rw [List.mem_range];omega
  rw [List.length_map,List.length_range] at h3;exact h3
theorem runsL_snoc (f:TF)(l:List Nat)(a:Nat):runsL f (l++[a])=runA f (runsL f l) a:=by unfold runsL;rw [List.foldl_append];rfl
def scQ (l:Nat)(K:Env->SP->Prop)(Q:Post):Post
  | .goto l',ρ,A=>l'=l/\ K ρ A
  |e,ρ,A=>Q e ρ A
section
variable {P:Program} {n:Nat} {ρ:Env} {A:SP} {Q:Post} {K:Env->SP->Prop} {l:Nat}
theorem tc_goto (h:Q (.goto l) ρ A):TC P n (.goto l) Q ρ A:=λ g a w ha hs=>wp_goto ⟨rfl,ρ,A,ha,hs,h⟩
theorem q_sc_r (h:Q .ret ρ A):scQ l K Q .ret ρ A:=h
theorem q_sc_g (h:K ρ A):scQ l K Q (.goto l) ρ A:=⟨rfl,h⟩
theorem q_then_g {K':Env->SP->Prop}(h:Q (.goto l) ρ A):thenQ K' Q (.goto l) ρ A:=h
theorem tc_scope {c rest:Code}(K:Env->SP->Prop)(hf:findLabel c l=some (.seq .skip rest))(hk:∀ρ A,K ρ A->TC P n rest (scQ l (λ _ _=>False) Q) ρ A)
    (h:(∀ρ A,K ρ A->TC P n rest (scQ l (λ _ _=>False) Q) ρ A)->TC P n c (scQ l K Q) ρ A):TC P n (.scope c) Q ρ A:=λ g a w ha hs=>by
  refine wp_scope_jumps l (λ a w=>∃ρ A,Agr n ρ a/\ sat g w A/\ K ρ A) (λ _ _=>0) hf ?_ ?_
  . refine wp_mono (h hk g a w ha hs) λ e a' w' ⟨hok,ρ',A',ha',hs',hq⟩=> ?_
    cases e with
    |goto l'=>exact ⟨hq.1,ρ',A',ha',hs',hq.2⟩
    |normal=>exact ⟨hok,ρ',A',ha',hs',hq⟩
    |exit id=>exact ⟨hok,ρ',A',ha',hs',hq⟩
    |ret=>exact ⟨hok,ρ',A',ha',hs',hq⟩
    |panic ch=>exact ⟨hok,ρ',A',ha',hs',hq⟩
    |outgrown=>exact ⟨hok,ρ',A',ha',hs',hq⟩
  rintro a w ⟨ρ,A,ha,hs,hK⟩;refine wp_mono ((tc_seq (tc_skip (hk ρ A hK)):TC P n (.seq .skip rest) (scQ l (λ _ _=>False) Q) ρ A) g a w ha hs) λ e a' w' ⟨hok,ρ',A',ha',hs',hq⟩=> ?_
  cases e with
  |goto l'=>exact hq.2.elim
  |normal=>exact ⟨hok,ρ',A',ha',hs',hq⟩
  |exit id=>exact ⟨hok,ρ',A',ha',hs',hq⟩
  |ret=>exact ⟨hok,ρ',A',ha',hs',hq⟩
  |panic ch=>exact ⟨hok,ρ',A',ha',hs',hq⟩
  |outgrown=>exact ⟨hok,ρ',A',ha',hs',hq⟩
theorem tc_fall {rest:Code}(hk:∀ρ A,K ρ A->TC P n rest (scQ l (λ _ _=>False) Q) ρ A)(h:K ρ A):TC P n (.seq (.label l) rest) (scQ l K Q) ρ A:=by
  refine tc_seq (tc_label ?_)
  show TC P n rest (scQ l K Q) ρ A
  exact tc_imp (hk ρ A h) λ e ρ A hq=>by
    cases e with
    |goto l'=>exact hq.2.elim
    |_=>exact hq
end
def pocs (lg d:Nat)(ov:Option Nat):List Value:=[pz d,pz lg,.pointer (ov.map λ t=>(⟨t,0,none⟩:Addr))]
def txcs (p mb:Nat)(over:Bool):List Value:=[pz p,.map (some mb),.bool over]
def stpS (at_ sz:Nat)(s:DevS):Int:=if (recordsS at_ sz s).2=0/\ (recordsS at_ sz s).1≠[] then 3 else (recordsS at_ sz s).2
def idlS (s:DevS)(ov:Option Nat):Int:=if s.off=true then 5 else if ov.isSome then 3 else 0
theorem rec_err {at_ sz:Nat}{s:DevS}:(recordsS at_ sz s).2=0∨(recordsS at_ sz s).2=5∨(recordsS at_ sz s).2=110:=by
  unfold recordsS
  split
  . exact .inr (.inl rfl)
  rcases Classical.em ((recsF (s.ls.length*64) at_ sz (roomS at_ sz s) (wordP (at_:Nat) s).1 0).2=0) with h|h
  . exact .inl h
  rw [recs_err h];exact .inr (.inr rfl)
attribute [local irreducible] crk crL crc Sl pt ro Dev imgS recS readS recsF rdW rdO rkT Parts rvl recordsS
theorem Zf8 {p r:Prop}(k:r)(h:Kq r->p:=by intro k;refine tlm ?_;refine tl_bool (d:=5) rfl (sbq ?_) dbq;exact k.o):p:=h ⟨k⟩
theorem Zbr {p r:Prop}(k:r)(h:Kq r->p:=by intro k;refine tv (o_nilCheck rfl) ?_;refine tv (o_fieldAddr (o:=0) underlying78 rfl rfl sz28 rfl) ?_;exact k.o):p:=h ⟨k⟩
theorem made12_c {A:SP}{d:Nat}{p lg:Nat}{ov:Option Nat}(hp:Has A p (cl (pocs lg d ov) 78):=by exact hbqz):
    Fn Tryz.prog 134 #[pz p] A (λ r B=>r= .bool true/\ A=B):=by
  refine fn_enterW func134 rfl ntmps134 (by simp) ?_;refine Zds ?_;refine tv (o_nep underlying66 rfl rfl) ?_;refine Zf8 ?_;intro h;refine tlm ?_;refine Zbr ?_;refine tv (o_load p28 rfl hp rfl) ?_;refine tv (o_nep underlying28 rfl rfl) ?_;refine Zdt ?_;exact ⟨.bool true,_,res1 rfl rfl,Dr.sat drqz,rfl,rfl⟩
theorem Zfz {p r:Prop}(k:r)(h:Kq r->p:=by intro k;refine Zbf ?_;refine Zz ?_;exact k.o):p:=h ⟨k⟩
theorem Size12_c {A R:SP}{C:SP->SP}{d:Nat}{s:DevS}(hc:Ct A (Dev d s) R C:=by exact cbqz){p lg:Nat}{ov:Option Nat}(hp:Has A p (cl (pocs lg d ov) 78):=by exact hbqz):
    Fn Tryz.prog 69 #[pz p] A (λ r B=>r= .int .i64 ((s.ls.length:Int)*64)/\ A=B):=by
  refine fn_enterW func69 rfl ntmps69 (by simp) ?_;refine Zbl ?_;refine tl_c rfl (o_call bd134 rfl (made12_c (hp:=hp))) ?_;refine Zfz ?_;intro h;refine Ze3 ?_;refine tv (o_fieldAddr (o:=0) underlying78 rfl rfl sz28 rfl) ?_;refine tv (o_load p28 rfl hp rfl) ?_;refine tl_c rfl (o_call bd73 rfl (Size_c (hc:=hc))) ?_;rintro _ _ ⟨rfl,rfl⟩;refine Zf ?_;exact ⟨_,_,res1 rfl rfl,Dr.sat drqz,rfl,rfl⟩
theorem Zdj {p r:Prop}(k:r)(h:Kq r->p:=by intro k;refine tv (o_pick_f rfl wqz) ?_;refine tl_nil ?_;exact k.o):p:=h ⟨k⟩
theorem State12_c {A R:SP}{C:SP->SP}{d:Nat}{s:DevS}(hc:Ct A (Dev d s) R C:=by exact cbqz){p lg:Nat}{ov:Option Nat}(hp:Has A p (cl (pocs lg d ov) 78):=by exact hbqz){at_ sz:Nat}(hl:Has R lg (cl (lcs11 d at_ sz) 183):=by exact hbqz)(hlw:LogW (s.ls.length*64) at_ sz:=by assumption):
    Fn Tryz.prog 113 #[pz p] A (λ r B=>r= .int .i64 (stpS at_ sz s)/\ A=B):=by
  refine fn_enterW func113 rfl ntmps113 (by simp) ?_;obtain ⟨L,e0,hL⟩:∃L e0,recordsS at_ sz s=(L,e0):=⟨_,_,rfl⟩;have hst:stpS at_ sz s=if e0=0/\ L≠[] then 3 else e0:=(by unfold stpS;rw [hL]);refine Zbl ?_;refine tl_c rfl (o_call bd134 rfl (made12_c (hp:=hp))) ?_;refine Zfz ?_;intro h;refine Ze3 ?_;refine tv (o_fieldAddr (o:=1) underlying78 rfl rfl sz75 rfl) ?_;refine tv (o_load p75 rfl hp rfl) ?_;refine tl_c rfl (o_call bd138 rfl (Records_w (hc:=hc) (hl:=hl) (hlw:=hlw) (hX:=hL))) ?_;rintro _ _ ⟨a13,c13,vs,rfl,hc13,hvs,rfl⟩;have hA9:C (Dev d s)=A:=(by rw [hc.2];exact hc.1.symm);rw [hA9]
  refine Zc7 ?_;refine Zgp ?_;refine tc_cut (λ ρ BB=>∃ (bb:Bool),(bb=decide (e0=0/\ L≠[]))/\ ρ 22= .bool bb/\ ρ 4= .int .i64 e0/\ Dr BB (A)) ?_ ?_
  . skip
    refine Zw ?_;refine tv (o_eqi rfl rfl) ?_;refine tlm ?_;refine tl_bool (d:=18) rfl (λ h=> ?_) (λ h=> ?_)
    . have g18:(e0=0):=(by first|exact of_decide_eq_true h|(have h2:=h;simp at h2;omega)|simpa using h);refine tlm ?_;refine tv (o_len underlying184 rfl) ?_;refine tv (o_gtr rfl rfl) ?_;refine Zc2 ?_;exact ⟨_,by first|(rw [decide_eq_decide];exact ⟨λ h9=>⟨g18,λ e=>by subst e;simp at h9⟩,λ h9=>by have:=List.length_pos_iff.2 h9.2;omega⟩)|exact (decide_eq_false λ h9=>g18 h9.1).symm,rfl,rfl,drqz⟩
    have g18:¬(e0=0):=(by first|exact of_decide_eq_false h|(have h2:=h;simp at h2;omega)|simpa using h);refine Zo ?_;refine tk ?_;refine Zdj ?_;exact ⟨_,by first|(rw [decide_eq_decide];exact ⟨λ h9=>⟨g18,λ e=>by subst e;simp at h9⟩,λ h9=>by have:=List.length_pos_iff.2 h9.2;omega⟩)|exact (decide_eq_false λ h9=>g18 h9.1).symm,rfl,rfl,drqz⟩
  intro ρ B hI;obtain ⟨bb,hbb0,hE22,hE4,hBA⟩:=hI;refine q_then_n ?_;refine tc_pre hBA.sat ?_;clear hBA;refine te 22 hE22 ?_;refine te 4 hE4 ?_;refine tc_cond rfl (sbq ?_) (sbq ?_)
  . intro h;refine Zdb ?_;rw [h] at hbb0
    have h9:=of_decide_eq_true hbb0.symm;rw [hst,if_pos h9]
    exact ⟨.int .i64 3,_,res1 rfl rfl,Dr.sat drqz,rfl,rfl⟩
  intro h;refine Zbq ?_;refine Zf ?_;rw [h] at hbb0
  have h9:=of_decide_eq_false hbb0.symm;rw [hst,if_neg h9]
  exact ⟨.int .i64 e0,_,res1 rfl rfl,Dr.sat drqz,rfl,rfl⟩
theorem idle12_c {A R:SP}{C:SP->SP}{d:Nat}{s:DevS}(hc:Ct A (Dev d s) R C:=by exact cbqz){p lg:Nat}{ov:Option Nat}(hp:Has A p (cl (pocs lg d ov) 78):=by exact hbqz):
    Fn Tryz.prog 112 #[pz p] A (λ r B=>r= .int .i64 (idlS s ov)/\ A=B):=by
  refine fn_enterW func112 rfl ntmps112 (by simp) ?_;refine Zb9 ?_;refine Zr ?_;refine Zb ?_;refine tl_c rfl (o_call bd134 rfl (made12_c (hp:=hp))) ?_;refine Zbf ?_;refine Zcz ?_;intro h;refine Z7 ?_;refine tv (o_fieldAddr (o:=0) underlying78 rfl rfl sz28 rfl) ?_;refine tv (o_load p28 rfl hp rfl) ?_;refine tl_c rfl (o_call bd34 rfl (Off_c (hc:=hc))) ?_;refine Zfb ?_;refine tc_cond rfl (sbq ?_) (λ h=> ?_)
  . intro h;refine Zf3 ?_;have e:idlS s ov=5:=(by unfold idlS;rw [if_pos h]);rw [e]
    exact ⟨.int .i64 5,_,res1 rfl rfl,Dr.sat drqz,rfl,rfl⟩
  have ho:s.off=false:=(by simpa using h);refine Z7 ?_;refine tv (o_fieldAddr (o:=2) underlying78 rfl rfl sz76 rfl) ?_;refine tv (o_load p76 rfl hp rfl) ?_;refine tv (o_nep underlying76 rfl rfl) ?_;refine Za ?_;refine tc_cond rfl (sbq ?_) (sbq ?_)
  . intro h;refine Zf3 ?_;have e:idlS s ov=3:=(by unfold idlS;rw [if_neg (by rw [ho];decide),if_pos (by cases ov<;>simp at h ⊢)]);rw [e]
    exact ⟨.int .i64 3,_,res1 rfl rfl,Dr.sat drqz,rfl,rfl⟩
  intro h;refine Zdi ?_;refine Zdn ?_;have e:idlS s ov=0:=(by unfold idlS;rw [if_neg (by rw [ho];decide),if_neg (by cases ov<;>simp at h ⊢)]);rw [e]
  exact ⟨.int .i64 0,_,res1 rfl rfl,Dr.sat drqz,rfl,rfl⟩
theorem Zek {p r:Prop}(k:r)(h:Kq r->p:=by intro k;refine tv (o_eqp underlying76 rfl rfl) ?_;refine tlm ?_;exact k.o):p:=h ⟨k⟩
theorem Zf9 {p r:Prop}(k:r)(h:Kq r->p:=by intro k;refine Zek ?_;refine tl_bool (d:=6) rfl dbq (sbq ?_);exact k.o):p:=h ⟨k⟩
theorem Zu {p r:Prop}(k:r)(h:Kq r->p:=by intro k;refine tv (o_nilCheck rfl) ?_;refine tv (o_fieldAddr (o:=0) underlying155 rfl rfl sz66 rfl) ?_;exact k.o):p:=h ⟨k⟩
theorem Zei {p r:Prop}(k:r)(h:Kq r->p:=by intro k;refine tv (o_eqp underlying66 rfl rfl) ?_;refine tv (o_pick_f rfl wqz) ?_;exact k.o):p:=h ⟨k⟩
theorem Zc6 {p r:Prop}(k:r)(h:Kq r->p:=by intro k;refine Z7 ?_;refine tv (o_fieldAddr (o:=2) underlying155 rfl rfl sz4 rfl) ?_;exact k.o):p:=h ⟨k⟩
theorem begun12_c {A R:SP}{C:SP->SP}{d:Nat}{s:DevS}(hc:Ct A (Dev d s) R C:=by exact cbqz){p lg:Nat}{ov:Option Nat}(hp:Has A p (cl (pocs lg d ov) 78):=by exact hbqz){t mb:Nat}(ht:Has A t (cl (txcs p mb false) 155):=by exact hbqz)(ho:s.off=false:=by assumption):
    Fn Tryz.prog 114 #[pz t] A (λ r B=>r= .int .i64 0/\ A=B):=by
  refine fn_enterW func114 rfl ntmps114 (by simp) ?_;refine Zb9 ?_;refine Zr ?_;refine Zb ?_;refine Zf9 ?_;intro h;refine tlm ?_;refine Zu ?_;refine tv (o_load p66 rfl ht rfl) ?_;refine Zei ?_;refine Zcz ?_;intro h;refine Zc6 ?_;refine tv (o_load p4 rfl ht rfl) ?_;refine Zcz ?_;intro h;refine Zb ?_;refine Zu ?_;refine tv (o_load p66 rfl ht rfl) ?_;refine Zbr ?_;refine tv (o_load p28 rfl hp rfl) ?_;refine tl_c rfl (o_call bd34 rfl (Off_c (hc:=hc))) ?_;refine Zfb ?_;refine tc_cond rfl (λ h=> ?_) (sbq ?_)
  . exfalso;rw [ho] at h;simp at h
  intro h;refine Zdi ?_;refine Zdn ?_;exact ⟨.int .i64 0,_,res1 rfl rfl,Dr.sat drqz,rfl,rfl⟩
theorem Zcx {p r:Prop}(k:r)(h:Kq r->p:=by intro k;refine Zu ?_;refine tv (o_load p66 rfl hsqz rfl) ?_;exact k.o):p:=h ⟨k⟩
theorem end12_c {A R:SP}{p lg d t mb:Nat}{over:Bool}{M:MS}(hA:A=R*pt p (cl (pocs lg d (some t)) 78)*pt t (cl (txcs p mb over) 155)*pt mb (mpo .i64 M)):
    Fn Tryz.prog 123 #[pz t] A (λ r B=>r= .tuple #[]/\ B=R*pt p (cl (pocs lg d none) 78)*pt t (cl (txcs p mb true) 155)*pt mb (mpo .i64 M.clr)):=by
  refine fn_enterW func123 rfl ntmps123 (by simp) ?_;subst hA;refine Zc6 ?_;refine tl_u rfl (o_stU (l':=txcs p mb true) rfl upqz sz4 rfl rfl (by show 2<3;decide) rfl) ?_;refine nq ?_;refine Z7 ?_;refine tv (o_fieldAddr (o:=1) underlying155 rfl rfl sz153 rfl) ?_;refine tv (o_load p153 rfl hsqz rfl) ?_;refine tl_x rfl (o_clearM underlying153 rfl upqz) ?_;refine Zdo ?_;refine Zw ?_;refine Zcx ?_;refine tv (o_nilCheck rfl) ?_;refine tv (o_fieldAddr (o:=2) underlying78 rfl rfl sz76 rfl) ?_;refine tl_u rfl (o_stU (l':=pocs lg d none) rfl upqz sz76 rfl rfl (by show 2<3;decide) rfl) ?_;refine tl_nil ?_;exact ⟨.tuple #[],_,res0 rfl,λ _ _ h=>h,rfl,rfl⟩
end Go.Vl

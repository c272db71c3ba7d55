/- What the row rests on, part 5: a calculus of assertions, walks of functions over it, and plain laws. Conditions: none. -/
import Derived.Deep.QuietTactic
import Derived.BigQuiet
import Derived.WalkKit
import Derived.Test.YtfmieencngkkcaaGreatProg
import Derived.OrdersHeld
import Derived.Shelf.SortM.SortNone
import Derived.Shelf.SortM.Plain
import Derived.Ground.SlgmProg
import Derived.Shelf.SlIterI.Nil
import Derived.Ground.GgzProg
import Derived.Maps.RangeRun
import Derived.Laws.BytesArg
import Derived.RangeFuncRecord
import Derived.TacticsIn
import Derived.Deep.Slices
import Derived.OpenShut
import Derived.ChangeArms
import Derived.SizedLaws
import Derived.ChangeSame
import Derived.Test.YtfmieencngkkcaaGreatRows
import Derived.Sort.QuietThIn
import Derived.ScopeJumps
import Derived.LaidEqlPtr
import Derived.MapKept
import Derived.Laws.Externs
import Derived.Lib.Builder
import Derived.Lib.UnsafeStr
import Derived.Laws.Strings
import Derived.Lib.ConvBytes
import Derived.Laws.AppendOwn
import Derived.Defers
import Derived.Test.YtfmieencngkkcaaGreatMg4
set_option linter.unusedVariables false
set_option linter.unusedSimpArgs false
set_option maxRecDepth 100000
set_option maxHeartbeats 4000000
namespace Go.Vl
open Go Go.Proofs Go.Proofs.Tryz
theorem RwOk.right {Z Y:SP}{cell:Nat}{vs:List Value}{cs:List (List Nat)}(h:RwOk Z cell vs cs):RwOk (Y*Z) cell vs cs:=⟨h.1,λ j hj=>let ⟨a,c,h1,h2⟩:=h.2 j hj;⟨a,c,h1,h2.right⟩⟩
theorem PtOk.right {Z Y:SP}{cell:Nat}{x:PtV}{p:Prt}(h:PtOk Z cell x p):PtOk (Y*Z) cell x p:=⟨h.c,h.r.right,h.w.right⟩
theorem PsOk.right {Z Y:SP}{cell:Nat}{xs:List PtV}{l:List Prt}(h:PsOk Z cell xs l):PsOk (Y*Z) cell xs l:=⟨h.len,λ j h1 h2=>(h.ok j h1 h2).right⟩
def partsR (u:Nat->Bool)(c:Nat->List Nat)(nb cell ref:Nat):List (Nat×List (List Nat))×Int:=match partsS u c nb cell (nb+3) ref [] with
  |some l=>(l,0)
  |none=>([],150)
def fitsT (fill:Nat)(out:List (Nat×List (List Nat)))(n:Nat):Bool:=match out.getLast? with
  |none=>false
  |some p=>decide (p.2.length+n<=fill)
section
variable {u:Nat->Bool} {c:Nat->List Nat} {nb cell k ref nx dn sz:Nat} {out:List (Nat×List (List Nat))} {bs:List Nat}
theorem parts_bad1 (h0:ref≠0)(h:¬u (ref-1)=true∨nb<out.length):partsS u c nb cell (k+1) ref out=none:=by
  unfold partsS;rw [if_neg h0,if_pos h]
theorem parts_bad2 (h0:ref≠0)(hu:u (ref-1)=true)(hn:¬nb<out.length)(hb:c (ref-1)=bs)(hdn:nm ((bs.drop 4).take 2)=dn)(hsz:nm ((bs.drop 6).take 2)=sz)(h:sz≠cell∨dn<1∨fillT cell<dn):partsS u c nb cell (k+1) ref out=none:=by
  unfold partsS;rw [if_neg h0,if_neg (λ h9=>h9.elim (λ h8=>h8 hu) hn),hb,hdn,hsz,if_pos h]
theorem parts_bad3 (h0:ref≠0)(hu:u (ref-1)=true)(hn:¬nb<out.length)(hb:c (ref-1)=bs)(hdn:nm ((bs.drop 4).take 2)=dn)(hsz:nm ((bs.drop 6).take 2)=sz)(h:¬(sz≠cell∨dn<1∨fillT cell<dn)){x:Nat}(hx:x∈bs.drop (8+dn*cell))(hx0:x≠0):partsS u c nb cell (k+1) ref out=none:=by
  unfold partsS;rw [if_neg h0,if_neg (λ h9=>h9.elim (λ h8=>h8 hu) hn),hb,hdn,hsz,if_neg h,if_pos (List.any_eq_true.2 ⟨x,hx,decide_eq_true hx0⟩)]
theorem parts_bad4 (h0:ref≠0)(hu:u (ref-1)=true)(hn:¬nb<out.length)(hb:c (ref-1)=bs)(hdn:nm ((bs.drop 4).take 2)=dn)(hsz:nm ((bs.drop 6).take 2)=sz)(h:¬(sz≠cell∨dn<1∨fillT cell<dn))(hz:∀x∈bs.drop (8+dn*cell),x=0)(hl:fitsT (fillT cell) out dn=true):partsS u c nb cell (k+1) ref out=none:=by
  unfold partsS;rw [if_neg h0,if_neg (λ h9=>h9.elim (λ h8=>h8 hu) hn),hb,hdn,hsz,if_neg h,if_neg (by rw [Bool.not_eq_true,List.any_eq_false];intro x hx;simp [hz x hx])];exact if_pos hl
theorem parts_go (h0:ref≠0)(hu:u (ref-1)=true)(hn:¬nb<out.length)(hb:c (ref-1)=bs)(hdn:nm ((bs.drop 4).take 2)=dn)(hsz:nm ((bs.drop 6).take 2)=sz)(h:¬(sz≠cell∨dn<1∨fillT cell<dn))(hz:∀x∈bs.drop (8+dn*cell),x=0)(hl:fitsT (fillT cell) out dn=false)(hnx:nm (bs.take 4)=nx):
    partsS u c nb cell (k+1) ref out=partsS u c nb cell k nx (out++[(ref-1,cutC cell dn (bs.drop 8))]):=by
  conv=>lhs;unfold partsS
  rw [if_neg h0,if_neg (λ h9=>h9.elim (λ h8=>h8 hu) hn),hb,hdn,hsz,if_neg h,if_neg (by rw [Bool.not_eq_true,List.any_eq_false];intro x hx;simp [hz x hx]),if_neg (by show¬fitsT _ _ _=true;rw [hl];decide),hnx]
theorem parts_end:partsS u c nb cell (k+1) 0 out=some out:=by unfold partsS;rw [if_pos rfl]
end
theorem asP_snoc (l:List (Nat×List (List Nat)))(b:Nat)(cs:List (List Nat)):asP (l++[(b,cs)])=asP l++[⟨((b:Nat):Int),cs,false⟩]:=by unfold asP;rw [List.map_append];rfl
theorem asP_n (l:List (Nat×List (List Nat))):(asP l).length=l.length:=by unfold asP;rw [List.length_map]
theorem fitsT_at {fill n:Nat}{l:List (Nat×List (List Nat))}(h:0<l.length):fitsT fill l n=decide ((l[l.length-1]'oqz).2.length+n<=fill):=by
  unfold fitsT
  rw [List.getLast?_eq_getElem?,List.getElem?_eq_getElem oqz]
theorem fitsT_nil {fill n:Nat}{l:List (Nat×List (List Nat))}(h:¬0<l.length):fitsT fill l n=false:=by
  obtain rfl:l=[]:=List.eq_nil_of_length_eq_zero oqz
  rfl
theorem dr_to {A B C:SP}(h:Dr A B)(e:B=C):Dr A C:=e▸h
theorem pts_nil:ptsV [] (asP [])=[]:=by unfold ptsV;rfl
theorem rs_slo {k m c:Nat}{a:Option Addr}{xs:List Value}:Rs (Sl k (.slice a m c) m xs) a xs:=by
  have h:=rs_sl (R:=emp) (k:=k) (m:=m) (c:=c) (a:=a) (xs:=xs)
  rwa [star_comm,star_emp] at h
theorem asP_at {l:List (Nat×List (List Nat))}{i:Nat}(h:i<l.length):(asP l)[i]'(by rw [asP_n];exact h)=⟨((l[i].1:Nat):Int),l[i].2,false⟩:=by simp [asP]
theorem pts_cell {xs:List PtV}{l:List (Nat×List (List Nat))}{i:Nat}(h:i<l.length)(h2:i<xs.length):(ptsV xs (asP l))[i*3+1]? =some (.slice xs[i].a l[i].2.length xs[i].c):=by
  rw [ptsV_get (by rw [asP_n];exact h) h2 (by decide)]
  show some (Value.slice _ ((asP l)[i]'(by rw [asP_n];exact h)).cells.length _)=_
  rw [asP_at h]
theorem rw_snoc {Z:SP}{cell c j:Nat}{a:Option Addr}{vs:List Value}{bs:List Nat}(h:RwOk Z cell vs (cutC cell j bs))(hr:Rs Z a (bys (bs.drop (j*cell)))):RwOk Z cell (vs++[.slice a cell c]) (cutC cell (j+1) bs):=by
  rw [cutC_snoc]
  exact rw_app h (rw_one (by
    have:=hr.sub cell
    unfold bys at this ⊢
    rwa [←List.map_take] at this))
theorem rs_cutD {A:SP}{a:Option Addr}{cap l k:Nat}{X:List Nat}(h:Rs A a (bys (X.drop k)))(hx:X.length<=cap+k):Rs A (cutAddr a cap l 1) (bys (X.drop (k+l))):=by
  have:=rs_cutC (l:=l) (cap:=cap) h (by rw [List.length_drop];omega)
  rwa [List.drop_drop] at this
theorem nm2_lt {bs:List Nat}{k:Nat}(h:∀x∈bs,x<256):nm ((bs.drop k).take 2)<65536:=by
  have h1:=nm_lt ((bs.drop k).take 2) λ x hx=>h x (List.mem_of_mem_drop (List.mem_of_mem_take hx))
  have h2:((bs.drop k).take 2).length<=2:=(by rw [List.length_take];omega);exact Nat.lt_of_lt_of_le h1 (Nat.pow_le_pow_right (by decide) h2:256^_<=256^2)
theorem nm4_lt {bs:List Nat}(h:∀x∈bs,x<256):nm (bs.take 4)<4294967296:=by
  have h1:=nm_lt (bs.take 4) λ x hx=>h x (List.mem_of_mem_take hx)
  have h2:(bs.take 4).length<=4:=(by rw [List.length_take];omega);exact Nat.lt_of_lt_of_le h1 (Nat.pow_le_pow_right (by decide) h2:256^_<=256^4)
attribute [local irreducible] crk crL crc Sl pt ro Dev imgS recS readS recsF rdW rdO rkT Parts rvl recordsS runsL adrF kcl xcl kys runA runsF layF ovF TxA adZ WkA comS conB rootV ptsV
theorem Zgz {p r:Prop}(k:r)(h:Kq r->p:=by intro k;refine Zy ?_;refine q_then_r (q_block_r (q_then_r (q_block_r (q_then_r ?_))));exact k.o):p:=h ⟨k⟩
theorem Zdn {p r:Prop}(k:r)(h:Kq r->p:=by intro k;refine ⟨by repeat (first|with_reducible exact dr_refl|apply dr_keep|apply dr_drop), ?_⟩;refine tm 8 rfl kqz rfl (o_fieldAddr (o:=1) underlying203 rfl rfl sz35 rfl) ?_;exact k.o):p:=h ⟨k⟩
theorem Zhp {p r:Prop}(k:r)(h:Kq r->p:=by intro k;refine ql_v rfl (o_len underlying35 rfl) ?_;refine ql_v rfl (o_fieldAddr (o:=1) underlying203 rfl rfl sz35 rfl) ?_;exact k.o):p:=h ⟨k⟩
theorem parts15_c {A R:SP}{C:SP->SP}{X:WkX}{Y:WkY}{T:WkT}{s:DevS}(hc:Ct A (WkA X Y s) R C:=by exact cbqz)(hok:WkOk X Y T (s.ls.length*64))(hb:WkB X s)(ho:s.off=false:=by assumption){ref cell:Nat}(hr1:ref<4294967296)(hcell:1<=cell/\ cell<=62):
    Fn Tryz.prog 120 #[.pointer (some ⟨X.w,0,none⟩),.int .u32 ((ref:Nat):Int),vn cell] A (λ r B=>∃l e a c xs Z,partsR (usedB T) (conB T s X.ba) X.n cell ref=(l,e)/\ r= .tuple #[.slice a l.length c,.int .i64 e]/\ ((l.length<=c/\ l.length<=X.n+1)/\ Rs Z a (ptsV xs (asP l))/\ PsOk Z cell xs (asP l))/\ B=A*Z):=by
  refine fn_enterW func120 rfl ntmps120 (by simp) ?_;obtain ⟨hb1,hb2,hb3⟩:=id hb;have hfp:=fill_pos hcell;refine tc_have (λ _ _ h=>txa_wf (wka_txa hc) _ _ h) λ hwf=> ?_
  refine Zdh ?_;refine tl_c rfl (o_call bd199 rfl (Root13_c (hc:=hc) (hok:=hok) (hb:=hb))) ?_;rintro _ _ ⟨v27,rfl,rfl⟩;refine Zey ?_;refine Zz ?_;intro h;refine Zb9 ?_;refine tl_c rfl (o_call bd34 rfl (Fill15_c (cell:=((cell:Nat):Int)) (hc:=⟨by omega,by omega⟩))) ?_;rintro _ _ ⟨rfl,rfl⟩;refine tl_env (d:=34) (v:=(vn (fillT cell))) (by show Value.int .i64 (if 1<=((cell:Nat):Int)/\ ((cell:Nat):Int)<=62 then ((fillT ((cell:Nat):Int).toNat:Nat):Int) else 0)=_;rw [if_pos oqz,Int.toNat_natCast]) ?_;refine Zds ?_;refine tv (o_eqi rfl rfl) ?_;refine Zn ?_;intro h;refine Ze ?_;refine Zs ?_;refine Zx ?_;refine tc_pre (A':=A*Sl 3 (.slice none 0 0) 0 []*Sl 3 (.slice none 0 0) 0 []) (λ _ _ h=>sl_nil (sl_nil h)) ?_;refine tc_loop (λ kk ρ BB=>∃ (q:Nat) (l:List (Nat×List (List Nat))) (a:Option Addr) (c:Nat) (xs:List PtV) (Z:SP),(q<4294967296/\ l.length<=X.n+1/\ l.length<=c)/\ (PsOk Z cell xs (asP l))/\ (partsS (usedB T) (conB T s X.ba) X.n cell (X.n+3-l.length) q l=partsS (usedB T) (conB T s X.ba) X.n cell (X.n+3) ref [])/\ (∀p∈l,p.2.length<=248)/\ kk=X.n+2-l.length/\ ρ 1= .int .u32 ((q:Nat):Int)/\ ρ 11= .slice a l.length c/\ ρ 0= .pointer (some ⟨X.w,0,none⟩)/\ ρ 2=(vn cell)/\ ρ 10=(vn (fillT cell))/\ Dr BB (A*Z*Sl 3 (.slice a l.length c) l.length (ptsV xs (asP l)))) (m:=X.n+2-(([]:List (Nat×List (List Nat)))).length) ?_ ?_
  . exact ⟨ref,([]:List (Nat×List (List Nat))),none,0,([]:List PtV),Sl 3 (.slice none 0 0) 0 [],⟨hr1,Nat.zero_le _,Nat.le_refl _⟩,ps_nil _ _,by rw [List.length_nil,Nat.sub_zero],(λ p hp=>(by cases hp)),rfl,rfl,rfl,rfl,rfl,rfl,by rw [pts_nil];exact dr_refl⟩
  intro k ρ B hI;obtain ⟨q,l,a,c,xs,Z,hp0,hp1,hp2,hp3,hkk1,hE1,hE11,hE0,hE2,hE10,hBA⟩:=hI;refine tc_pre hBA.sat ?_;clear hBA;refine te 1 hE1 ?_;refine te 11 hE11 ?_;refine te 0 hE0 ?_;refine te 2 hE2 ?_;refine te 10 hE10 ?_;refine Zl ?_;refine Zbv ?_;refine tc_cond rfl (λ h=> ?_) (λ h=> ?_)
  . obtain ⟨hqb,hl1,hl2⟩:=hp0;have hq0:q≠0:=(by first|omega|(simp at h;omega));refine Ze ?_;refine tc_block ?_;refine Zbj ?_;refine tv (o_convI (a:=((q:Nat):Int)) underlying53 underlying3 rfl (wrap_i64 oqz)) ?_;refine tv (o_subI rfl rfl oqz) ?_;refine tl_env (d:=43) (v:=(vn (q-1))) (congrArg (Value.int .i64) oqz) ?_;refine tl_c rfl (o_call bd148 rfl (Read13_c (hc:=by first|exact ct_left hc|exact ct_left (ct_left hc)) (hok:=hok) (hb:=hb) (b:=((q-1:Nat):Int)))) ?_;rintro _ _ ⟨a44,m44,c44,e44,xs44,rfl,hr44,rfl⟩;rw [usedZ_nat,Int.toNat_natCast] at hr44
    refine Zeo ?_;refine Zb1 ?_;refine tc_cut (λ ρ BB=>∃ (bb:Bool),(bb=(decide (e44≠0)||decide (X.n<l.length)))/\ ρ 55= .bool bb/\ ρ 0= .pointer (some ⟨X.w,0,none⟩)/\ ρ 1= .int .u32 ((q:Nat):Int)/\ ρ 2=(vn cell)/\ ρ 10=(vn (fillT cell))/\ ρ 11= .slice a l.length c/\ ρ 12= .slice a44 m44 c44/\ Dr BB (A*Z*Sl 3 (.slice a l.length c) l.length (ptsV xs (asP l))*Sl 1 (.slice a44 m44 c44) m44 (bys xs44))) ?_ ?_
    . skip
      refine Zbq ?_;refine Zdf ?_;refine tl_bool (d:=49) rfl (sbq ?_) (sbq ?_)
      . intro h;refine Zgl ?_;refine Zbg ?_;exact ⟨_,by simp_all,rfl,rfl,rfl,rfl,rfl,rfl,rfl,drqz⟩
      intro h;refine tlm ?_;refine tv (o_len underlying198 rfl) ?_;refine tlm ?_;refine tl_c rfl (o_call bd200 rfl (BlocksW (hc:=by first|exact ct_left hc|exact ct_left (ct_left hc)|exact ct_left (ct_left (ct_left hc))))) ?_;rintro _ _ ⟨rfl,rfl⟩;refine Zg9 ?_;exact ⟨_,by simp_all,rfl,rfl,rfl,rfl,rfl,rfl,rfl,drqz⟩
    intro ρ B hI;obtain ⟨bb,hbb0,hE55,hE0,hE1,hE2,hE10,hE11,hE12,hBA⟩:=hI;refine q_then_n ?_;refine tc_pre hBA.sat ?_;clear hBA;refine te 55 hE55 ?_;refine te 0 hE0 ?_;refine te 1 hE1 ?_;refine te 2 hE2 ?_;refine te 10 hE10 ?_;refine te 11 hE11 ?_;refine te 12 hE12 ?_;refine tc_cond rfl (λ h=> ?_) (λ h=> ?_)
    . have hbad:¬usedB T (q-1)=true∨X.n<l.length:=hr44.elim (λ h1=> .inr (by rw [h,h1.2.1] at hbb0;simpa using hbb0.symm)) (λ h1=> .inl (by rw [h1.1];decide));refine sr ?_;refine Zgz ?_;have hR:partsR (usedB T) (conB T s X.ba) X.n cell ref=([],150):=(by unfold partsR;rw [←hp2,show X.n+3-l.length=(X.n+2-l.length)+1 by omega,parts_bad1 hq0 hbad]);exact ⟨.tuple #[.slice none 0 0,.int .i64 150],A*Z,res2 rfl rfl rfl,Dr.sat drqz,[],150,none,0,[],Z,hR,rfl,⟨⟨Nat.le_refl _,Nat.zero_le _⟩,by rw [pts_nil];exact rs_nil,ps_nil Z cell⟩,rfl⟩
    rw [h] at hbb0
    have hbb1:=hbb0.symm
    simp only [Bool.or_eq_false_iff,decide_eq_false_iff_not] at hbb1
    obtain ⟨hbe,hnl⟩:=hbb1;obtain ⟨hu,rfl,rfl,hc7,hx7⟩|⟨hu,rfl,_,_⟩:=hr44
    rotate_left
    . exact absurd (by decide) hbe
    obtain ⟨bs,hbs⟩:∃bs,conB T s X.ba (q-1)=bs:=⟨_,rfl⟩;obtain rfl:bs=xs44:=(hx7.trans hbs).symm;have hcl:=con_lt (s:=s) (ba:=X.ba) (b:=q-1) hok;rw [hbs] at hcl
    have hun:=used_n hok hu;have hbl:bs.length=256:=(congrArg List.length hbs).symm.trans (con_len (by rw [imgS_len hwf];omega));refine Zdv ?_;obtain ⟨nx,hnx⟩:∃nx,nm (bs.take 4)=nx:=⟨_,rfl⟩;obtain ⟨dn,hdn⟩:∃dn,nm ((bs.drop 4).take 2)=dn:=⟨_,rfl⟩;obtain ⟨sz,hsz⟩:∃sz,nm ((bs.drop 6).take 2)=sz:=⟨_,rfl⟩;have hnb:=nm4_lt hcl;rw [hnx] at hnb
    have hdb:=nm2_lt (k:=4) hcl;rw [hdn] at hdb
    have hsb:=nm2_lt (k:=6) hcl;rw [hsz] at hsb
    refine Zbq ?_;refine tl_c rfl (o_call bd68 rfl (Take32_c (p:=0) (xs:=bs) (m:=256) (hb:=hcl) (hm:=hbl))) ?_;refine Zdu ?_;refine tl_env (d:=59) (v:= .int .u32 ((nx:Nat):Int)) (by show Value.int .u32 ((nm ((bs.drop 0).take 4):Nat):Int)=_;rw [List.drop_zero,hnx]) ?_;refine Zfq ?_;refine tl_c rfl (o_call bd201 rfl (Take16_c (p:=4) (xs:=bs) (m:=256) (hb:=hcl) (hm:=hbl))) ?_;refine Zdu ?_;refine tl_env (d:=64) (v:= .int .u16 ((dn:Nat):Int)) (by show Value.int .u16 ((nm ((bs.drop 4).take 2):Nat):Int)=_;rw [hdn]) ?_;refine Zfq ?_;refine tl_c rfl (o_call bd201 rfl (Take16_c (p:=6) (xs:=bs) (m:=256) (hb:=hcl) (hm:=hbl))) ?_;refine Zdu ?_;refine tl_env (d:=69) (v:= .int .u16 ((sz:Nat):Int)) (by show Value.int .u16 ((nm ((bs.drop 6).take 2):Nat):Int)=_;rw [hsz]) ?_;refine tv (o_extract rfl rfl) ?_;refine Zm ?_;refine Zb1 ?_;refine tc_cut (λ ρ BB=>∃ (bb2:Bool),(bb2=decide (sz≠cell∨dn<1∨fillT cell<dn))/\ ρ 84= .bool bb2/\ ρ 0= .pointer (some ⟨X.w,0,none⟩)/\ ρ 1= .int .u32 ((q:Nat):Int)/\ ρ 2=(vn cell)/\ ρ 10=(vn (fillT cell))/\ ρ 11= .slice a l.length c/\ ρ 12= .slice a44 256 c44/\ ρ 14= .int .u32 ((nx:Nat):Int)/\ ρ 16= .int .u16 ((dn:Nat):Int)/\ Dr BB (A*Z*Sl 3 (.slice a l.length c) l.length (ptsV xs (asP l))*Sl 1 (.slice a44 256 c44) 256 (bys bs))) ?_ ?_
    . skip
      refine Zbq ?_;refine tv (o_convI (a:=((sz:Nat):Int)) underlying287 underlying3 rfl (wrap_i64 oqz)) ?_;refine tlm ?_;refine Zdf ?_;refine tl_bool (d:=75) rfl (sbq ?_) (sbq ?_)
      . intro h;refine Zp ?_;refine Zdx ?_;refine Zbg ?_;exact ⟨_,by first|exact (decide_eq_true oqz).symm|exact (decide_eq_false oqz).symm|(rw [decide_eq_decide];omega),rfl,rfl,rfl,rfl,rfl,rfl,rfl,rfl,rfl,drqz⟩
      intro h;refine Zhl ?_;refine tl_bool (d:=79) rfl (sbq ?_) (sbq ?_)
      . intro h;refine Zh7 ?_;exact ⟨_,by first|exact (decide_eq_true oqz).symm|exact (decide_eq_false oqz).symm|(rw [decide_eq_decide];omega),rfl,rfl,rfl,rfl,rfl,rfl,rfl,rfl,rfl,drqz⟩
      intro h;refine tlm ?_;refine tv (o_convI (a:=((dn:Nat):Int)) underlying287 underlying3 rfl (wrap_i64 oqz)) ?_;refine tlm ?_;refine Zg9 ?_;exact ⟨_,by first|exact (decide_eq_true oqz).symm|exact (decide_eq_false oqz).symm|(rw [decide_eq_decide];omega),rfl,rfl,rfl,rfl,rfl,rfl,rfl,rfl,rfl,drqz⟩
    intro ρ B hI;obtain ⟨bb2,hbc0,hE84,hE0,hE1,hE2,hE10,hE11,hE12,hE14,hE16,hBA⟩:=hI;refine q_then_n ?_;refine tc_pre hBA.sat ?_;clear hBA;refine te 84 hE84 ?_;refine te 0 hE0 ?_;refine te 1 hE1 ?_;refine te 2 hE2 ?_;refine te 10 hE10 ?_;refine te 11 hE11 ?_;refine te 12 hE12 ?_;refine te 14 hE14 ?_;refine te 16 hE16 ?_;refine tc_cond rfl (λ h=> ?_) (λ h=> ?_)
    . have hbad2:sz≠cell∨dn<1∨fillT cell<dn:=(by rw [h] at hbc0;exact of_decide_eq_true hbc0.symm);refine sr ?_;refine Zgz ?_;have hR:partsR (usedB T) (conB T s X.ba) X.n cell ref=([],150):=(by unfold partsR;rw [←hp2,show X.n+3-l.length=(X.n+2-l.length)+1 by omega,parts_bad2 hq0 hu hnl hbs hdn hsz hbad2]);exact ⟨.tuple #[.slice none 0 0,.int .i64 150],A*Z,res2 rfl rfl rfl,Dr.sat drqz,[],150,none,0,[],Z,hR,rfl,⟨⟨Nat.le_refl _,Nat.zero_le _⟩,by rw [pts_nil];exact rs_nil,ps_nil Z cell⟩,rfl⟩
    have hok2:¬(sz≠cell∨dn<1∨fillT cell<dn):=(by rw [h] at hbc0;exact of_decide_eq_false hbc0.symm);have hfm:=fill_mul cell dn oqz;refine Zb9 ?_;refine tv (o_convI (a:=((q:Nat):Int)) underlying53 underlying3 rfl (wrap_i64 oqz)) ?_;refine tv (o_subI rfl rfl oqz) ?_;refine tl_env (d:=87) (v:=(vn (q-1))) (congrArg (Value.int .i64) oqz) ?_;refine tv (o_bS (l:=[_,_,_]) (pv_cons wqz pv_nil) underlying203 z203 (pl203 underlying203) rfl) ?_;refine tl_x rfl (o_alloc (l:=[.int .i64 0,.slice none 0 0,.bool false]) z203 rfl) ?_;rintro _ _ ⟨b20,rfl,rfl⟩;refine tl_u rfl (o_stUN (l':=[vn (q-1),.slice none 0 0,.bool false]) rfl upqz sz203 rfl rfl rfl (by exact Nat.le_refl 3) rfl) ?_;refine nq ?_;refine Zb ?_;refine tv (o_slice (l:=8) (h:=256) underlying67 sz5 rfl (bnd_nat rfl) bnd_none oqz oqz) ?_;refine tl_env (d:=90) (v:= .slice (cutAddr a44 c44 8 1) 248 (c44-8)) (rfl) ?_;refine Zds ?_;refine Zb8 ?_;refine tc_pre (A':=A*Z*Sl 3 (.slice a l.length c) l.length (ptsV xs (asP l))*Sl 1 (.slice a44 256 c44) 256 (bys bs)*pt b20 (cl [vn (q-1),.slice none 0 0,.bool false] 203)*Sl 1 (.slice none 0 0) 0 []) (λ _ _ h=>sl_nil h) ?_;refine tc_loop (λ kk ρ BB=>∃ (j:Nat) (a2:Option Addr) (c2:Nat) (vs:List Value) (r2:Option Addr) (rc:Nat),(j<=dn/\ j<=c2)/\ (RwOk (Sl 1 (.slice a44 256 c44) 256 (bys bs)) cell vs (cutC cell j (bs.drop 8)))/\ (Rs (Sl 1 (.slice a44 256 c44) 256 (bys bs)) r2 (bys ((bs.drop 8).drop (j*cell)))/\ 248-j*cell<=rc)/\ kk=dn-j/\ ρ 21= .slice r2 (248-j*cell) rc/\ ρ 92= .int .u16 ((j:Nat):Int)/\ ρ 0= .pointer (some ⟨X.w,0,none⟩)/\ ρ 2=(vn cell)/\ ρ 10=(vn (fillT cell))/\ ρ 11= .slice a l.length c/\ ρ 14= .int .u32 ((nx:Nat):Int)/\ ρ 20=(pz b20)/\ ρ 91= .int .u16 ((dn:Nat):Int)/\ Dr BB (A*Z*Sl 3 (.slice a l.length c) l.length (ptsV xs (asP l))*Sl 1 (.slice a44 256 c44) 256 (bys bs)*pt b20 (cl [vn (q-1),.slice a2 j c2,.bool false] 203)*Sl 1 (.slice a2 j c2) j vs)) (m:=dn-(0)) ?_ ?_
    . exact ⟨0,none,0,[],cutAddr a44 c44 8 1,c44-8,⟨Nat.zero_le _,Nat.zero_le _⟩,rw_nil _ _,⟨by rw [Nat.zero_mul,List.drop_zero];exact rs_cutC (l:=8) rs_slo oqz,by omega⟩,rfl,by rw [Nat.zero_mul];rfl,rfl,rfl,rfl,rfl,rfl,rfl,rfl,rfl,drqz⟩
    intro k ρ B hI;obtain ⟨j,a2,c2,vs,r2,rc,hq0,hq1,hq2,hkk2,hE21,hE92,hE0,hE2,hE10,hE11,hE14,hE20,hE91,hBA⟩:=hI;refine tc_pre hBA.sat ?_;clear hBA;refine te 21 hE21 ?_;refine te 92 hE92 ?_;refine te 0 hE0 ?_;refine te 2 hE2 ?_;refine te 10 hE10 ?_;refine te 11 hE11 ?_;refine te 14 hE14 ?_;refine te 20 hE20 ?_;refine te 91 hE91 ?_;refine Zcg ?_;refine tc_cond rfl (λ h=> ?_) (λ h=> ?_)
    . have hj:j<dn:=(by first|omega|(simp at h;omega));have hjm:(j+1)*cell<=dn*cell:=Nat.mul_le_mul_right _ hj;rw [Nat.succ_mul] at hjm
      obtain ⟨hqj,hqc⟩:=hq0;have hrc:=hq2.2;refine Zbp ?_;refine tc_seq ?_;refine tc_regh (S:=A*Z*Sl 3 (.slice a l.length c) l.length (ptsV xs (asP l))*Sl 1 (.slice a44 256 c44) 256 (bys bs)) mo drqz ?_
      show TH _ _ _ _ _ 10 (Array.replicate 10 false) _ _
      refine tm 0 rfl kqz rfl (o_fieldAddr (o:=1) underlying203 rfl rfl sz35 rfl) ?_;refine Zc9 ?_;refine tm 4 rfl kqz rfl (o_move wqz) ?_;refine tm 5 rfl kqz rfl (o_slice3n (h:=cell) (m:=cell) underlying67 sz5 rfl rfl rfl (Nat.le_refl _) oqz) ?_;refine th_two (i:=1) (j:=6) kqz ?_ ?_
      . skip
        refine oh_v rfl rfl rfl (o_load p35 rfl hsqz rfl) ?_;refine th_one (i:=6) kqz ?_;refine oh_x rfl rfl rfl (o_buildSlice1 underlying35 sz67 z67 wqz rfl) ?_;rintro _ _ ⟨b100,rfl,rfl⟩;refine Zes ?_;refine oh_x rfl rfl rfl (o_apB underlying35 underlying35 sz67 by67 z67 rfl (by decide) (by decide) rfl rfl rfl ctqz rfl rfl oqz rfl) ?_;rintro _ _ ⟨a101,c101,rfl,hc101,rfl⟩;refine Zdn ?_;refine th_one (i:=9) kqz ?_;refine oh_u rfl rfl rfl (o_stU (l':=[vn (q-1),.slice a101 (j+1) c101,.bool false]) rfl upqz sz35 rfl rfl (by show 1<3;decide) rfl) drqz ?_;refine Zbs ?_;refine Zb5 ?_;refine tv (o_slice (l:=cell) (h:=248-j*cell) underlying67 sz5 rfl (bnd_nat rfl) bnd_none oqz oqz) ?_;refine tl_env (d:=105) (v:= .slice (cutAddr r2 rc cell 1) (248-(j+1)*cell) (rc-cell)) (by show Value.slice (cutAddr r2 rc cell 1) (248-j*cell-cell) (rc-cell)=_;rw [Nat.succ_mul,←Nat.sub_sub]) ?_;refine Zg6 ?_;refine tv (o_addN rfl rfl rfl (by show j+1<65536;omega)) ?_;refine Zbl ?_;exact ⟨_,by omega,j+1,_,_,vs++[.slice r2 cell cell],cutAddr r2 rc cell 1,rc-cell,⟨by omega,hc101⟩,rw_snoc hq1 hq2.1,⟨by rw [Nat.succ_mul];exact rs_cutD hq2.1 (by rw [List.length_drop];omega),by rw [Nat.succ_mul];omega⟩,rfl,rfl,rfl,rfl,rfl,rfl,rfl,rfl,rfl,rfl,drqz⟩
      . skip
        refine oh_x rfl rfl rfl (o_buildSlice1 underlying35 sz67 z67 wqz rfl) ?_;rintro _ _ ⟨b100,rfl,rfl⟩;refine ⟨by repeat (first|with_reducible exact dr_refl|apply dr_keep|apply dr_drop), ?_⟩;refine th_one (i:=1) kqz ?_;refine oh_v rfl rfl rfl (o_load p35 rfl hsqz rfl) ?_;refine th_one (i:=7) kqz ?_;refine oh_x rfl rfl rfl (o_apB underlying35 underlying35 sz67 by67 z67 rfl (by decide) (by decide) rfl rfl rfl ctqz rfl rfl oqz rfl) ?_;rintro _ _ ⟨a101,c101,rfl,hc101,rfl⟩;refine Zdn ?_;refine th_one (i:=9) kqz ?_;refine oh_u rfl rfl rfl (o_stU (l':=[vn (q-1),.slice a101 (j+1) c101,.bool false]) rfl upqz sz35 rfl rfl (by show 1<3;decide) rfl) drqz ?_;refine Zbs ?_;refine Zb5 ?_;refine tv (o_slice (l:=cell) (h:=248-j*cell) underlying67 sz5 rfl (bnd_nat rfl) bnd_none oqz oqz) ?_;refine tl_env (d:=105) (v:= .slice (cutAddr r2 rc cell 1) (248-(j+1)*cell) (rc-cell)) (by show Value.slice (cutAddr r2 rc cell 1) (248-j*cell-cell) (rc-cell)=_;rw [Nat.succ_mul,←Nat.sub_sub]) ?_;refine Zg6 ?_;refine tv (o_addN rfl rfl rfl (by show j+1<65536;omega)) ?_;refine Zbl ?_;exact ⟨_,by omega,j+1,_,_,vs++[.slice r2 cell cell],cutAddr r2 rc cell 1,rc-cell,⟨by omega,hc101⟩,rw_snoc hq1 hq2.1,⟨by rw [Nat.succ_mul];exact rs_cutD hq2.1 (by rw [List.length_drop];omega),by rw [Nat.succ_mul];omega⟩,rfl,rfl,rfl,rfl,rfl,rfl,rfl,rfl,rfl,rfl,drqz⟩
    obtain ⟨hqj,hqc⟩:=hq0;obtain rfl:dn=j:=by first|omega|(simp at h;omega)
    have hrc:=hq2.2;refine Zk ?_;refine Zl ?_;refine Zev ?_;refine tc_loop (λ kk ρ BB=>∃ (i:Nat),(i<=248-dn*cell)/\ (∀x∈((bs.drop 8).drop (dn*cell)).take i,x=0)/\ kk=248-dn*cell-i/\ ρ 109=(vn i)/\ ρ 0= .pointer (some ⟨X.w,0,none⟩)/\ ρ 2=(vn cell)/\ ρ 10=(vn (fillT cell))/\ ρ 11= .slice a l.length c/\ ρ 14= .int .u32 ((nx:Nat):Int)/\ ρ 20=(pz b20)/\ ρ 107= .slice r2 (248-dn*cell) rc/\ ρ 108=(vn (248-dn*cell))/\ Dr BB (A*Z*Sl 3 (.slice a l.length c) l.length (ptsV xs (asP l))*Sl 1 (.slice a44 256 c44) 256 (bys bs)*pt b20 (cl [vn (q-1),.slice a2 dn c2,.bool false] 203)*Sl 1 (.slice a2 dn c2) dn vs)) (m:=248-dn*cell-(0)) ?_ ?_
    . exact ⟨0,by omega,λ x hx=>by simp at hx,rfl,rfl,rfl,rfl,rfl,rfl,rfl,rfl,rfl,rfl,drqz⟩
    intro k ρ B hI;obtain ⟨i,hr0,hr1,hkk3,hE109,hE0,hE2,hE10,hE11,hE14,hE20,hE107,hE108,hBA⟩:=hI;refine tc_pre hBA.sat ?_;clear hBA;refine te 109 hE109 ?_;refine te 0 hE0 ?_;refine te 2 hE2 ?_;refine te 10 hE10 ?_;refine te 11 hE11 ?_;refine te 14 hE14 ?_;refine te 20 hE20 ?_;refine te 107 hE107 ?_;refine te 108 hE108 ?_;refine Zcg ?_;refine tc_cond rfl (λ h=> ?_) (λ h=> ?_)
    . have hi:i<248-dn*cell:=(by first|omega|(simp at h;omega));have hi2:i<((bs.drop 8).drop (dn*cell)).length:=(by rw [List.length_drop,List.length_drop];omega);obtain ⟨x,hx⟩:∃x,((bs.drop 8).drop (dn*cell))[i]=x:=⟨_,rfl⟩;refine Zd5 ?_;refine tv (o_ixP1 (a:=r2) (j:=i) underlying67 sz5 rfl rfl hi (nn_rs (xs:=bys ((bs.drop 8).drop (dn*cell))) (by repeat (first|exact hq2.1.right|apply Rs.left)) (by rw [bys_length];omega))) ?_;refine tv (o_ldP (a:=r2) (xs:=bys ((bs.drop 8).drop (dn*cell))) p5 rfl (by repeat (first|exact hq2.1.right|apply Rs.left)) (bys_at hi2)) ?_;refine tl_env (d:=112) (v:= .int .u8 ((x:Nat):Int)) (by show Value.int .u8 ((((bs.drop 8).drop (dn*cell))[i]:Nat):Int)=_;rw [hx]) ?_;refine Zbu ?_;refine Zbv ?_;refine tc_cond rfl (λ h=> ?_) (λ h=> ?_)
      . have hx0:x≠0:=(by first|omega|(simp at h;omega));have hxm:x∈bs.drop (8+dn*cell):=(by rw [←List.drop_drop,←hx];exact List.getElem_mem hi2);refine sr ?_;refine Zy ?_;refine q_block_r (q_then_r (q_then_r (q_block_r (q_then_r (q_block_r (q_then_r (q_block_r (q_then_r ?_))))))));have hR:partsR (usedB T) (conB T s X.ba) X.n cell ref=([],150):=(by unfold partsR;rw [←hp2,show X.n+3-l.length=(X.n+2-l.length)+1 by omega,parts_bad3 hq0 hu hnl hbs hdn hsz hok2 hxm hx0]);exact ⟨.tuple #[.slice none 0 0,.int .i64 150],A*Z,res2 rfl rfl rfl,Dr.sat drqz,[],150,none,0,[],Z,hR,rfl,⟨⟨Nat.le_refl _,Nat.zero_le _⟩,by rw [pts_nil];exact rs_nil,ps_nil Z cell⟩,rfl⟩
      have hx0:x=0:=(by first|omega|(simp at h;omega));refine Zgh ?_;exact ⟨_,by omega,i+1,by omega,λ y hy=>by rw [List.take_succ_eq_append_getElem hi2,List.mem_append,List.mem_singleton,hx] at hy;rcases hy with hy|rfl;exact hr1 y hy;exact hx0,rfl,rfl,rfl,rfl,rfl,rfl,rfl,rfl,rfl,rfl,drqz⟩
    have hzz:∀x∈bs.drop (8+dn*cell),x=0:=λ x hx=>hr1 x (by rw [List.take_of_length_le (by rw [List.length_drop,List.length_drop];first|omega|(simp at h;omega)),List.drop_drop];exact hx)
    refine Zk ?_;refine Zch ?_;refine Zeh ?_;refine tc_cut (λ ρ BB=>∃ (bb3:Bool),(bb3=fitsT (fillT cell) l dn)/\ ρ 134= .bool bb3/\ ρ 0= .pointer (some ⟨X.w,0,none⟩)/\ ρ 2=(vn cell)/\ ρ 10=(vn (fillT cell))/\ ρ 11= .slice a l.length c/\ ρ 14= .int .u32 ((nx:Nat):Int)/\ ρ 20=(pz b20)/\ Dr BB (A*Z*Sl 3 (.slice a l.length c) l.length (ptsV xs (asP l))*Sl 1 (.slice a44 256 c44) 256 (bys bs)*pt b20 (cl [vn (q-1),.slice a2 dn c2,.bool false] 203)*Sl 1 (.slice a2 dn c2) dn vs)) ?_ ?_
    . skip
      refine Zgt ?_;refine ql_v rfl (o_gtr rfl rfl) ?_;refine ql_v rfl (o_move wqz) ?_;refine ql_bool (d:=120) rfl (sbq ?_) (sbq ?_)
      . intro h;refine Zd2 ?_;refine ql_v rfl (o_subI rfl rfl oqz) ?_;refine ql_env (d:=123) (v:=(vn (l.length-1))) (congrArg (Value.int .i64) oqz) ?_;refine ql_v rfl (o_ixP (a:=a) (j:=l.length-1) underlying198 sz203 rfl rfl oqz (nn_rs (xs:=ptsV xs (asP l)) sq0z (by rw [ptsV_len hp1.len,asP_n];omega))) ?_;refine ql_v rfl (o_faP (m:=0) (o:=1) underlying203 rfl rfl sz35 rfl (nn_rs (xs:=ptsV xs (asP l)) sq0z (by rw [ptsV_len hp1.len,asP_n];omega))) ?_;refine ql_v rfl (o_ldP (xs:=ptsV xs (asP l)) p35 rfl sq0z (pts_cell (i:=l.length-1) oqz (by rw [hp1.len,asP_n];omega))) ?_;refine Zhp ?_;refine ql_v rfl (o_load p35 rfl hsqz rfl) ?_;refine ql_v rfl (o_len underlying35 rfl) ?_;refine ql_v rfl (o_addI rfl rfl (by have:=hp3 _ (List.getElem_mem (show l.length-1<l.length by omega));omega)) ?_;refine ql_v rfl (o_move wqz) ?_;refine ql_v rfl (o_leq rfl rfl) ?_;refine Zei ?_;exact ⟨_,by first|(rw [fitsT_nil oqz];done)|(rw [fitsT_at oqz,decide_eq_decide];omega),rfl,rfl,rfl,rfl,rfl,rfl,rfl,drqz⟩
      intro h;refine Zh6 ?_;refine ql_skip rfl ?_;refine Zg2 ?_;exact ⟨_,by first|(rw [fitsT_nil oqz];done)|(rw [fitsT_at oqz,decide_eq_decide];omega),rfl,rfl,rfl,rfl,rfl,rfl,rfl,drqz⟩
    intro ρ B hI;obtain ⟨bb3,hbd0,hE134,hE0,hE2,hE10,hE11,hE14,hE20,hBA⟩:=hI;refine q_then_n ?_;refine tc_pre hBA.sat ?_;clear hBA;refine te 134 hE134 ?_;refine te 0 hE0 ?_;refine te 2 hE2 ?_;refine te 10 hE10 ?_;refine te 11 hE11 ?_;refine te 14 hE14 ?_;refine te 20 hE20 ?_;refine tc_cond rfl (λ h=> ?_) (λ h=> ?_)
    . have hlast:fitsT (fillT cell) l dn=true:=(by rw [←hbd0];exact h);refine sr ?_;refine Zgz ?_;have hR:partsR (usedB T) (conB T s X.ba) X.n cell ref=([],150):=(by unfold partsR;rw [←hp2,show X.n+3-l.length=(X.n+2-l.length)+1 by omega,parts_bad4 hq0 hu hnl hbs hdn hsz hok2 hzz hlast]);exact ⟨.tuple #[.slice none 0 0,.int .i64 150],A*Z,res2 rfl rfl rfl,Dr.sat drqz,[],150,none,0,[],Z,hR,rfl,⟨⟨Nat.le_refl _,Nat.zero_le _⟩,by rw [pts_nil];exact rs_nil,ps_nil Z cell⟩,rfl⟩
    have hlast:fitsT (fillT cell) l dn=false:=(by rw [←hbd0];exact h);refine Zb9 ?_;refine tv (o_loadN (vs:=[vn (q-1),.slice a2 dn c2,.bool false]) a203 sz203 rfl hsqz (by exact Nat.le_refl 3) rfl) ?_;refine tl_x rfl (o_buildSliceK (k:=3) (l:=[vn (q-1),.slice a2 dn c2,.bool false]) underlying198 sz203 z203 rfl rfl (by decide)) ?_;rintro _ _ ⟨b137,rfl,rfl⟩;refine tl_x rfl (o_apB underlying198 underlying198 sz203 by203 z203 rfl (by decide) (by decide) rfl rfl rfl ctqz rfl rfl oqz (show _=ptsV (xs++[⟨a2,c2,vs⟩]) (asP (l++[(q-1,cutC cell dn (bs.drop 8))])) by rw [asP_snoc,ptsV_snoc hp1.len];show _=_++[_,Value.slice a2 (cutC cell dn (bs.drop 8)).length c2,_];rw [cutC_len])) ?_;rintro _ _ ⟨a138,c138,rfl,hc138,rfl⟩;refine Za ?_;refine Zbq ?_;refine Zbn ?_;refine q_block_n (q_then_n ?_);exact ⟨_,by rw [List.length_append,List.length_singleton];omega,nx,l++[(q-1,cutC cell dn (bs.drop 8))],_,_,xs++[⟨a2,c2,vs⟩],Z*Sl 1 (.slice a44 256 c44) 256 (bys bs)*Sl 1 (.slice a2 dn c2) dn vs,⟨hnb,by rw [List.length_append,List.length_singleton];omega,by rw [List.length_append,List.length_singleton];omega⟩,by rw [asP_snoc];exact ps_snoc hp1.left.left ⟨by show (cutC cell dn (bs.drop 8)).length<=c2;rw [cutC_len];omega,rs_sl,(hq1.right (Y:=Z)).left⟩,by rw [←hp2,show X.n+3-l.length=(X.n+2-l.length)+1 by omega,parts_go hq0 hu hnl hbs hdn hsz hok2 hzz hlast hnx,List.length_append,List.length_singleton,show X.n+3-(l.length+1)=X.n+2-l.length by omega],(λ p hp=>(by rcases List.mem_append.1 hp with hp|hp;exact hp3 p hp;rw [List.mem_singleton] at hp;subst hp;show (cutC cell dn (bs.drop 8)).length<=248;rw [cutC_len];omega)),rfl,rfl,by rw [List.length_append];rfl,rfl,rfl,rfl,by rw [List.length_append];refine dr_to (B:=A*Z*Sl 3 (.slice a138 (l.length+1) c138) (l.length+1) (ptsV (xs++[⟨a2,c2,vs⟩]) (asP (l++[(q-1,cutC cell dn (bs.drop 8))])))*Sl 1 (.slice a44 256 c44) 256 (bys bs)*Sl 1 (.slice a2 dn c2) dn vs) drqz (by simp only [List.length_singleton];ac_rfl)⟩
  obtain ⟨hqb,hl1,hl2⟩:=hp0;obtain rfl:q=0:=by first|omega|(simp at h;omega)
  have hR:partsR (usedB T) (conB T s X.ba) X.n cell ref=(l,0):=(by unfold partsR;rw [←hp2,show X.n+3-l.length=(X.n+2-l.length)+1 by omega,parts_end]);refine Zgj ?_;exact ⟨.tuple #[.slice a l.length c,.int .i64 0],A*(Z*Sl 3 (.slice a l.length c) l.length (ptsV xs (asP l))),res2 rfl rfl rfl,(λ g w h=>by rw [←star_assoc];exact h),l,0,a,c,xs,Z*Sl 3 (.slice a l.length c) l.length (ptsV xs (asP l)),hR,rfl,⟨⟨hl2,hl1⟩,rs_sl,hp1.left⟩,rfl⟩
end Go.Vl

namespace Go.Vl
open Go Go.Proofs Go.Proofs.Tryz
theorem cutC_rows {cell:Nat}:∀{n:Nat} {xs:List Nat},n*cell<=xs.length->∀x∈cutC cell n xs,x.length=cell/\∀y∈x,y∈xs
  |0,xs,_,x,hx=>by cases hx
  |n+1,xs,h,x,hx=>by
    rw [Nat.succ_mul] at h
    unfold cutC at hx
    rcases List.mem_cons.1 hx with rfl|hx
    . exact ⟨by rw [List.length_take];omega,λ y hy=>List.mem_of_mem_take hy⟩
    obtain ⟨h1,h2⟩:=cutC_rows (n:=n) (xs:=xs.drop cell) (by rw [List.length_drop];omega) x hx;exact ⟨h1,λ y hy=>List.mem_of_mem_drop (h2 y hy)⟩
structure RowG (u:Nat->Bool) (cell:Nat) (p:Nat×List (List Nat)):Prop where
  u:u p.1=true
  lo:1<=p.2.length
  hi:p.2.length<=fillT cell
  rw_:∀x∈p.2,x.length=cell/\∀y∈x,y<256
theorem partsS_eq {u:Nat->Bool}{c:Nat->List Nat}{nb cell k ref:Nat}{out:List (Nat×List (List Nat))}:partsS u c nb cell (k+1) ref out=(if ref=0 then some out
    else if¬(u (ref-1)=true)∨nb<out.length then none
    else if nm (((c (ref-1)).drop 6).take 2)≠cell∨nm (((c (ref-1)).drop 4).take 2)<1∨fillT cell<nm (((c (ref-1)).drop 4).take 2) then none
    else if ((c (ref-1)).drop (8+nm (((c (ref-1)).drop 4).take 2)*cell)).any (λ x=>decide (x≠0))=true then none
    else if fitsT (fillT cell) out (nm (((c (ref-1)).drop 4).take 2))=true then none
    else partsS u c nb cell k (nm ((c (ref-1)).take 4)) (out++[(ref-1,cutC cell (nm (((c (ref-1)).drop 4).take 2)) ((c (ref-1)).drop 8))])):=by
  conv=>lhs;unfold partsS
  rfl
theorem parts_rows {u:Nat->Bool}{c:Nat->List Nat}{nb cell:Nat}(hc:∀b,u b=true->(c b).length=256/\∀x∈c b,x<256):∀{k ref:Nat} {out l:List (Nat×List (List Nat))},partsS u c nb cell k ref out=some l->(∀p∈out,RowG u cell p)->∀p∈l,RowG u cell p
  |0,_,_,_,h,_=>by cases h
  |k+1,ref,out,l,h,ho=>by
    rw [partsS_eq] at h
    by_cases h0:ref=0
    . rw [if_pos h0] at h;obtain rfl:=Option.some.inj h;exact ho
    rw [if_neg h0] at h
    by_cases h1:¬u (ref-1)=true∨nb<out.length
    . rw [if_pos h1] at h;cases h
    rw [if_neg h1] at h
    split at h
    . cases h
    rename_i h2
    split at h
    . cases h
    split at h
    . cases h
    have hu:u (ref-1)=true:=Classical.byContradiction λ h9=>h1 (.inl h9)
    obtain ⟨hc1,hc2⟩:=hc _ hu;refine parts_rows hc h λ p hp=> ?_
    rcases List.mem_append.1 hp with hp|hp
    . exact ho p hp
    rw [List.mem_singleton] at hp
    subst hp;have hm:=fill_mul cell (nm (((c (ref-1)).drop 4).take 2)) oqz;refine ⟨hu,by rw [cutC_len];omega,by rw [cutC_len];omega,λ x hx=> ?_⟩;obtain ⟨g1,g2⟩:=cutC_rows (by rw [List.length_drop];omega) x hx;exact ⟨g1,λ y hy=>hc2 y (List.mem_of_mem_drop (g2 y hy))⟩
theorem partsR_rows {X:WkX}{Y:WkY}{T:WkT}{s:DevS}{cell ref:Nat}{l:List (Nat×List (List Nat))}{e:Int}(hok:WkOk X Y T (s.ls.length*64))(hb:WkB X s)(hwf:WfD s)(h:partsR (usedB T) (conB T s X.ba) X.n cell ref=(l,e)):∀p∈l,RowG (usedB T) cell p:=by
  unfold partsR at h
  cases hp:partsS (usedB T) (conB T s X.ba) X.n cell (X.n+3) ref [] with
  |none=>rw [hp] at h;simp only [Prod.mk.injEq] at h;rw [←h.1];intro p hp;cases hp
  |some l2=>
    rw [hp] at h;simp only [Prod.mk.injEq] at h;rw [←h.1]
    refine parts_rows (λ b hu=> ?_) hp λ p hp=>by cases hp
    have:=used_n hok hu;have:=hb.hi;exact ⟨con_len (by rw [imgS_len hwf];omega),con_lt hok⟩
theorem rowG_flat {u:Nat->Bool}{cell:Nat}{l:List (Nat×List (List Nat))}(h:∀p∈l,RowG u cell p):∀x∈flatP (asP l),x.length=cell/\∀y∈x,y<256:=λ x hx=>by
  rw [asP_flat] at hx
  obtain ⟨p,hp,hx⟩:=List.mem_flatMap.1 hx;exact (h p hp).rw_ x hx
theorem flat_most {u:Nat->Bool}{cell:Nat}:∀{l:List (Nat×List (List Nat))},(∀p∈l,RowG u cell p)->(flatP (asP l)).length<=248*l.length
  |[],_=>Nat.zero_le _
  |p::l,h=>by
    have ih:=flat_most (l:=l) λ q hq=>h q (List.mem_cons_of_mem _ hq)
    have h1:=(h p (List.mem_cons_self ..)).hi;have h2:fillT cell<=248:=Nat.div_le_self ..;have e:(flatP (asP (p::l))).length=p.2.length+(flatP (asP l)).length:=(by unfold asP flatP;rw [List.map_cons,List.flatMap_cons,List.length_append]);rw [e,List.length_cons];omega
theorem natI_sn (zs:List Nat){i:Nat}(h:i<zs.length):ints (natI (zs.take i))++[vn (zs[i])]=ints (natI (zs.take (i+1))):=by
  rw [List.take_succ_eq_append_getElem h,natI_snoc]
attribute [local irreducible] crk crL crc Sl pt ro Dev imgS recS readS recsF rdW rdO rkT Parts rvl recordsS runsL adrF kcl xcl kys runA runsF layF ovF TxA adZ WkA comS conB rootV ptsV
theorem Zbr {p r:Prop}(k:r)(h:Kq r->p:=by intro k;refine tv (o_fieldAddr (o:=0) underlying203 rfl rfl sz3 rfl) ?_;refine tv (o_load p3 rfl hsqz rfl) ?_;exact k.o):p:=h ⟨k⟩
theorem Blocks15_c {A R:SP}{C:SP->SP}{X:WkX}{Y:WkY}{T:WkT}{s:DevS}(hc:Ct A (WkA X Y s) R C:=by exact cbqz)(hok:WkOk X Y T (s.ls.length*64))(hb:WkB X s)(ho:s.off=false:=by assumption){ref cell:Nat}(hr1:ref<4294967296)(hcell:1<=cell/\ cell<=62):
    Fn Tryz.prog 33 #[.pointer (some ⟨X.w,0,none⟩),.int .u32 ((ref:Nat):Int),vn cell] A (λ r B=>∃l e a c,partsR (usedB T) (conB T s X.ba) X.n cell ref=(l,e)/\ r= .tuple #[.slice a l.length c,.int .i64 e]/\ (l.length<=c/\ l.length<=X.n+1)/\ B=A*Sl 1 (.slice a l.length c) l.length (ints (natI (l.map (·.1))))):=by
  refine fn_enterW func33 rfl ntmps33 (by simp) ?_;obtain ⟨hb1,hb2,hb3⟩:=id hb;have hfp:=fill_pos hcell;refine tc_have (λ _ _ h=>txa_wf (wka_txa hc) _ _ h) λ hwf=> ?_
  refine Zg5 ?_;refine Zv ?_;refine tl_c rfl (o_call bd120 rfl (parts15_c (hc:=hc) (hok:=hok) (hb:=hb) (hr1:=hr1) (hcell:=hcell))) ?_;rintro _ _ ⟨l17,e17,a17,c17,xs17,Z17,hp17,rfl,hq17,rfl⟩;obtain ⟨⟨hlc,hln⟩,hrs,hps⟩:=hq17;have hlm:(l17.map (·.1)).length=l17.length:=List.length_map ..;refine Zeo ?_;refine Zs ?_;refine Zgx ?_;refine tc_pre (A':=A*Z17*Sl 1 (.slice none 0 0) 0 []) (λ _ _ h=>sl_nil h) ?_;refine tc_loop (λ kk ρ BB=>∃ (i:Nat) (a2:Option Addr) (c2:Nat),(i<=l17.length/\ i<=c2)/\ kk=l17.length-i/\ ρ 10= .slice a2 i c2/\ ρ 22=(vn i)/\ ρ 9= .int .i64 e17/\ ρ 20= .slice a17 l17.length c17/\ ρ 21=(vn l17.length)/\ Dr BB (A*Z17*Sl 1 (.slice a2 i c2) i (ints (natI ((l17.map (·.1)).take i))))) (m:=l17.length-(0)) ?_ ?_
  . exact ⟨0,none,0,⟨Nat.zero_le _,Nat.zero_le _⟩,rfl,rfl,rfl,rfl,rfl,rfl,drqz⟩
  intro k ρ B hI;obtain ⟨i,a2,c2,hp0,hkk1,hE10,hE22,hE9,hE20,hE21,hBA⟩:=hI;refine tc_pre hBA.sat ?_;clear hBA;refine te 10 hE10 ?_;refine te 22 hE22 ?_;refine te 9 hE9 ?_;refine te 20 hE20 ?_;refine te 21 hE21 ?_;refine Zcg ?_;refine tc_cond rfl (λ h=> ?_) (λ h=> ?_)
  . obtain ⟨hp0,hp1⟩:=hp0;have hi:i<l17.length:=(by first|omega|(simp at h;omega));have hi2:i<xs17.length:=(by rw [hps.len,asP_n];exact hi);have hi3:i<(asP l17).length:=(by rw [asP_n];exact hi);refine Zd5 ?_;refine tv (o_ixP underlying198 sz203 rfl rfl oqz (nn_rs (xs:=ptsV xs17 (asP l17)) (by repeat (first|exact hrs.right|apply Rs.left)) (λ _=>by rw [ptsV_len hps.len,asP_n];omega))) ?_;refine tv (o_ldPN (vs:=xs17[i].cells (asP l17)[i]) a203 sz203 rfl (by repeat (first|exact hrs.right|apply Rs.left)) (ptsV_at hi3 hi2) rfl (by decide)) ?_;refine tl_x rfl (o_alloc (l:=[.int .i64 0,.slice none 0 0,.bool false]) z203 rfl) ?_;rintro _ _ ⟨b12,rfl,rfl⟩;refine tl_u rfl (o_stUN (l':=xs17[i].cells (asP l17)[i]) rfl upqz sz203 rfl rfl rfl (by exact Nat.le_refl 3) rfl) ?_;refine nq ?_;refine Zbq ?_;refine Zbr ?_;refine tl_env (d:=28) (v:= .int .i64 ((((l17.map (·.1))[i]'(by rw [hlm];exact hi):Nat)):Int)) (by show Value.int .i64 (asP l17)[i].blk=_;rw [asP_at hi,List.getElem_map]) ?_;refine tl_x rfl (o_buildSlice1 underlying34 sz3 z3 wqz rfl) ?_;rintro _ _ ⟨b29,rfl,rfl⟩;refine tl_x rfl (o_apB underlying34 underlying34 sz3 by3 z3 rfl (by decide) (by decide) rfl rfl rfl ctqz rfl rfl oqz (natI_sn _ (by rw [hlm];exact hi))) ?_;rintro _ _ ⟨a30,c30,rfl,hc30,rfl⟩;refine Zep ?_;exact ⟨_,by omega,i+1,_,_,⟨by omega,hc30⟩,rfl,rfl,rfl,rfl,rfl,rfl,drqz⟩
  obtain ⟨hp0,hp1⟩:=hp0;obtain rfl:i=l17.length:=by first|omega|(simp at h;omega)
  rw [List.take_of_length_le (by rw [hlm];exact Nat.le_refl _)]
  refine Zk ?_;refine Zbj ?_;refine Zy ?_;exact ⟨_,_,res2 rfl rfl rfl,Dr.sat drqz,l17,e17,a2,c2,hp17,rfl,⟨hp1,hln⟩,rfl⟩
end Go.Vl

namespace Go.Vl
open Go Go.Proofs Go.Proofs.Tryz
inductive ChT (c:Nat->List Nat):Nat->List Nat->Prop
  |nil:ChT c 0 []
  |cons {b:Nat} {l:List Nat} (h:ChT c (nm ((c b).take 4)) l):ChT c (b+1) (b::l)
theorem cht_det {c:Nat->List Nat}:∀{ref:Nat} {l m:List Nat},ChT c ref l->ChT c ref m->l=m
  |_,_,_,.nil,.nil=>rfl
  |_,_,_,.cons h,.cons k=>congrArg _ (cht_det h k)
theorem cht_mem {c:Nat->List Nat}{b:Nat}:∀{ref:Nat} {l:List Nat},ChT c ref l->b∈l->∃m,ChT c (b+1) (b::m)/\ m.length<l.length
  |_,_,.nil,h=>by cases h
  |_,_,.cons (b:=x) (l:=l) k,h=>by
    rcases List.mem_cons.1 h with rfl|h
    . exact ⟨l,.cons k,Nat.lt_succ_self _⟩
    obtain ⟨m,h1,h2⟩:=cht_mem k h;exact ⟨m,h1,Nat.lt_succ_of_lt h2⟩
theorem cht_nodup {c:Nat->List Nat}:∀{ref:Nat} {l:List Nat},ChT c ref l->l.Nodup
  |_,_,.nil=>List.nodup_nil
  |_,_,.cons (b:=x) (l:=l) k=>List.nodup_cons.2 ⟨λ h=>by
      obtain ⟨m,h1,h2⟩:=cht_mem k h;have:=cht_det h1 (.cons k);have h3:m=l:=(List.cons.inj this).2;rw [h3] at h2
      exact Nat.lt_irrefl _ h2,cht_nodup k⟩
theorem parts_cht {u:Nat->Bool}{c:Nat->List Nat}{nb cell:Nat}:∀{k ref:Nat} {out l:List (Nat×List (List Nat))},partsS u c nb cell k ref out=some l->∃m,l=out++m/\ ChT c ref (m.map (·.1))
  |0,_,_,_,h=>by cases h
  |k+1,ref,out,l,h=>by
    rw [partsS_eq] at h
    by_cases h0:ref=0
    . rw [if_pos h0] at h;obtain rfl:=Option.some.inj h;exact ⟨[],by rw [List.append_nil],h0▸ .nil⟩
    rw [if_neg h0] at h
    split at h
    . cases h
    split at h
    . cases h
    split at h
    . cases h
    split at h
    . cases h
    obtain ⟨m,h1,h2⟩:=parts_cht h;refine ⟨_::m,by rw [h1,List.append_assoc];rfl, ?_⟩;obtain ⟨b,rfl⟩:∃b,ref=b+1:=⟨ref-1,by omega⟩;exact .cons h2
theorem partsR_nodup {u:Nat->Bool}{c:Nat->List Nat}{nb cell ref:Nat}{l:List (Nat×List (List Nat))}{e:Int}(h:partsR u c nb cell ref=(l,e)):(l.map (·.1)).Nodup:=by
  unfold partsR at h
  cases hp:partsS u c nb cell (nb+3) ref [] with
  |none=>rw [hp] at h;simp only [Prod.mk.injEq] at h;rw [←h.1];exact List.nodup_nil
  |some l2=>
    rw [hp] at h;simp only [Prod.mk.injEq] at h;rw [←h.1]
    obtain ⟨m,h1,h2⟩:=parts_cht hp;rw [h1];exact cht_nodup h2
theorem flatP_at:∀{l:List Prt} {i j:Nat} (h:i<l.length) (hj:j<l[i].cells.length),(flatP l)[(flatP (l.take i)).length+j]? =some l[i].cells[j]
  |p::l,0,j,h,hj=>by
    rw [List.take_zero,flatP_cons]
    have hj:j<p.cells.length:=hj
    show (p.cells++flatP l)[0+j]? =some (p.cells[j]'hj)
    rw [Nat.zero_add,List.getElem?_append_left hj,List.getElem?_eq_getElem hj]
  |p::l,i+1,j,h,hj=>by
    rw [List.take_succ_cons,flatP_cons,flatP_cons,List.length_append,Nat.add_assoc,List.getElem?_append_right oqz,Nat.add_sub_cancel_left]
    exact flatP_at (l:=l) (by simpa using h) hj
theorem take_more {α:Type}{l:List α}{n:Nat}{x:α}(h:l[n]? =some x):l.take (n+1)=l.take n++[x]:=by
  obtain ⟨hn,rfl⟩:=List.getElem?_eq_some_iff.1 h;exact List.take_succ_eq_append_getElem hn
attribute [local irreducible] crk crL crc Sl pt ro Dev imgS recS readS recsF rdW rdO rkT Parts rvl recordsS runsL adrF kcl xcl kys runA runsF layF ovF TxA adZ WkA comS conB rootV ptsV
theorem Cells15_c {A R:SP}{C:SP->SP}{X:WkX}{Y:WkY}{T:WkT}{s:DevS}(hc:Ct A (WkA X Y s) R C:=by exact cbqz)(hok:WkOk X Y T (s.ls.length*64))(hb:WkB X s)(ho:s.off=false:=by assumption){ref cell:Nat}(hr1:ref<4294967296)(hcell:1<=cell/\ cell<=62):
    Fn Tryz.prog 32 #[.pointer (some ⟨X.w,0,none⟩),.int .u32 ((ref:Nat):Int),vn cell] A (λ r B=>∃l e a c vs Z,partsR (usedB T) (conB T s X.ba) X.n cell ref=(l,e)/\ r= .tuple #[.slice a (flatP (asP l)).length c,.int .i64 e]/\ ((flatP (asP l)).length<=c/\ Rs Z a vs/\ RwOk Z cell vs (flatP (asP l)))/\ B=A*Z):=by
  refine fn_enterW func32 rfl ntmps32 (by simp) ?_;obtain ⟨hb1,hb2,hb3⟩:=id hb;have hfp:=fill_pos hcell;refine tc_have (λ _ _ h=>txa_wf (wka_txa hc) _ _ h) λ hwf=> ?_
  refine Zg5 ?_;refine Zv ?_;refine tl_c rfl (o_call bd120 rfl (parts15_c (hc:=hc) (hok:=hok) (hb:=hb) (hr1:=hr1) (hcell:=hcell))) ?_;rintro _ _ ⟨l19,e19,a19,c19,xs19,Z19,hp19,rfl,hq19,rfl⟩;obtain ⟨⟨hlc,hln⟩,hrs,hps⟩:=hq19;have hrg:=partsR_rows hok hb hwf hp19;have hrf:=rowG_flat hrg;have hfm:=flat_most hrg;obtain ⟨L,hL⟩:∃L,asP l19=L:=⟨_,rfl⟩;have hLn:L.length=l19.length:=(by rw [←hL,asP_n]);rw [hL] at hrs hps hrf hfm
  refine Zeo ?_;refine Zs ?_;refine Zgx ?_;refine tc_pre (A':=A*Z19*Sl 1 (.slice none 0 0) 0 []*Sl 1 (.slice none 0 0) 0 []) (λ _ _ h=>sl_nil (sl_nil h)) ?_;refine tc_loop (λ kk ρ BB=>∃ (i:Nat) (a2:Option Addr) (c2:Nat) (vs:List Value) (Z2:SP),(i<=l19.length)/\ (vs.length<=c2)/\ (vs.length=(flatP (L.take i)).length)/\ (RwOk Z2 cell vs ((flatP L).take vs.length))/\ kk=l19.length-i/\ ρ 10= .slice a2 vs.length c2/\ ρ 24=(vn i)/\ ρ 9= .int .i64 e19/\ ρ 22= .slice a19 l19.length c19/\ ρ 23=(vn l19.length)/\ Dr BB (A*Z19*Sl 1 (.slice a2 vs.length c2) vs.length vs*Z2)) (m:=l19.length-(0)) ?_ ?_
  . exact ⟨0,none,0,([]:List Value),Sl 1 (.slice none 0 0) 0 [],Nat.zero_le _,Nat.zero_le _,by rw [List.take_zero];rfl,rw_nil _ _,rfl,rfl,rfl,rfl,rfl,rfl,by exact dr_refl⟩
  intro k ρ B hI;obtain ⟨i,a2,c2,vs,Z2,hp0,hp1,hp2,hp3,hkk1,hE10,hE24,hE9,hE22,hE23,hBA⟩:=hI;refine tc_pre hBA.sat ?_;clear hBA;refine te 10 hE10 ?_;refine te 24 hE24 ?_;refine te 9 hE9 ?_;refine te 22 hE22 ?_;refine te 23 hE23 ?_;refine Zcg ?_;refine tc_cond rfl (λ h=> ?_) (λ h=> ?_)
  . have hi:i<l19.length:=(by first|omega|(simp at h;omega));have hi3:i<L.length:=(by rw [hLn];exact hi);have hi2:i<xs19.length:=(by rw [hps.len];exact hi3);have hpt:=hps.ok i hi3 hi2;have hft:=flat_take hi3;have hfl:=flat_take_le L (i+1);obtain ⟨p,hp⟩:∃p,L[i]=p:=⟨_,rfl⟩;obtain ⟨x,hx⟩:∃x,xs19[i]=x:=⟨_,rfl⟩;rw [hp] at hft
    rw [hp,hx] at hpt
    have hpl:=hpt.w.1;have hpat:((ptsV xs19 L).drop (i*3)).take 3=x.cells p:=(by rw [ptsV_at hi3 hi2,hp,hx]);refine Zd5 ?_;refine tv (o_ixP underlying198 sz203 rfl rfl oqz (nn_rs (xs:=ptsV xs19 L) (by repeat (first|exact hrs.right|apply Rs.left)) (λ _=>by rw [ptsV_len hps.len];omega))) ?_;refine tv (o_ldPN (vs:=x.cells p) a203 sz203 rfl (by repeat (first|exact hrs.right|apply Rs.left)) hpat rfl (by decide)) ?_;refine tl_x rfl (o_alloc (l:=[.int .i64 0,.slice none 0 0,.bool false]) z203 rfl) ?_;rintro _ _ ⟨b12,rfl,rfl⟩;refine tl_u rfl (o_stUN (l':=x.cells p) rfl upqz sz203 rfl rfl rfl (by exact Nat.le_refl 3) rfl) ?_;refine nq ?_;refine sr ?_;refine Zb0 ?_;refine tl_env (d:=29) (v:= .slice x.a p.cells.length x.c) (rfl) ?_;refine Zfk ?_;refine tc_loop (λ kk ρ BB=>∃ (j:Nat) (a2:Option Addr) (c2:Nat) (vs:List Value) (Z2:SP),(j<=p.cells.length)/\ (vs.length<=c2)/\ (vs.length=(flatP (L.take i)).length+j)/\ (RwOk Z2 cell vs ((flatP L).take vs.length))/\ kk=p.cells.length-j/\ ρ 10= .slice a2 vs.length c2/\ ρ 31=(vn j)/\ ρ 9= .int .i64 e19/\ ρ 22= .slice a19 l19.length c19/\ ρ 23=(vn l19.length)/\ ρ 24=(vn i)/\ ρ 29= .slice x.a p.cells.length x.c/\ ρ 30=(vn p.cells.length)/\ Dr BB (A*Z19*Sl 1 (.slice a2 vs.length c2) vs.length vs*Z2)) (m:=p.cells.length-(0)) ?_ ?_
    . exact ⟨0,a2,c2,vs,Z2,Nat.zero_le _,hp1,hp2,hp3,rfl,rfl,rfl,rfl,rfl,rfl,rfl,rfl,rfl,drqz⟩
    intro k ρ B hI;obtain ⟨j,a2,c2,vs,Z2,hq0,hq1,hq2,hq3,hkk2,hE10,hE31,hE9,hE22,hE23,hE24,hE29,hE30,hBA⟩:=hI;refine tc_pre hBA.sat ?_;clear hBA;refine te 10 hE10 ?_;refine te 31 hE31 ?_;refine te 9 hE9 ?_;refine te 22 hE22 ?_;refine te 23 hE23 ?_;refine te 24 hE24 ?_;refine te 29 hE29 ?_;refine te 30 hE30 ?_;refine Zcg ?_;refine tc_cond rfl (λ h=> ?_) (λ h=> ?_)
    . have hj:j<p.cells.length:=(by first|omega|(simp at h;omega));obtain ⟨ra,rc,hrv,hrr⟩:=hpt.w.2 j hj;obtain ⟨y,hy⟩:∃y,p.cells[j]=y:=⟨_,rfl⟩;rw [hy] at hrr
      have hfn:(flatP L).take (vs.length+1)=(flatP L).take vs.length++[y]:=take_more (by subst hp;rw [hq2,flatP_at hi3 hj,hy]);have hyl:=(hrf y (by subst hp;exact List.mem_flatMap.2 ⟨L[i],List.getElem_mem hi3,hy▸List.getElem_mem hj⟩)).1;refine Zd5 ?_;refine tv (o_ixP1 (a:=x.a) underlying35 sz67 rfl rfl oqz (nn_rs (xs:=x.vs) (by repeat (first|exact hpt.r.right|apply Rs.left)) (λ _=>by rw [hpl];omega))) ?_;refine tv (o_ldP (a:=x.a) (xs:=x.vs) p67 rfl (by repeat (first|exact hpt.r.right|apply Rs.left)) hrv) ?_;refine Zhu ?_;refine tl_c rfl (o_call bd121 rfl (Clone_c (xs:=y) (hr:=(by repeat (first|exact hrr.right|apply Rs.left))) (hx:=hyl) (hn:=by omega) (h0:=by omega))) ?_;rintro _ _ ⟨a37,c37,rfl,hc37,rfl⟩;refine tl_x rfl (o_buildSlice1 underlying35 sz67 z67 wqz rfl) ?_;rintro _ _ ⟨b38,rfl,rfl⟩;refine tl_x rfl (o_apB underlying35 underlying35 sz67 by67 z67 rfl (by decide) (by decide) rfl rfl rfl ctqz rfl rfl oqz rfl) ?_;rintro _ _ ⟨a39,c39,rfl,hc39,rfl⟩;refine Zep ?_;exact ⟨_,by omega,j+1,_,_,vs++[.slice a37 cell c37],Z2*Sl 1 (.slice a37 cell c37) cell (bys y),by omega,by rw [List.length_append];exact hc39,by rw [List.length_append,List.length_singleton];omega,by rw [List.length_append,List.length_singleton,hfn];exact rw_app hq3.left (rw_one rs_sl),rfl,by rw [List.length_append];rfl,rfl,rfl,rfl,rfl,rfl,rfl,rfl,by rw [List.length_append,←star_assoc];repeat (first|with_reducible exact dr_refl|apply dr_keep|apply dr_drop)⟩
    obtain rfl:j=p.cells.length:=by first|omega|(simp at h;omega)
    refine Zea ?_;refine tc_reg ?_;refine Zb4 ?_;exact ⟨_,by omega,i+1,a2,c2,vs,Z2,by omega,hq1,by rw [hft];omega,hq3,rfl,rfl,rfl,rfl,rfl,rfl,drqz⟩
  obtain rfl:i=l19.length:=by first|omega|(simp at h;omega)
  rw [List.take_of_length_le oqz] at hp2
  rw [hp2,List.take_length] at hp3
  refine Zk ?_;refine Zbj ?_;refine Zy ?_;exact ⟨.tuple #[.slice a2 vs.length c2,.int .i64 e19],A*(Sl 1 (.slice a2 vs.length c2) vs.length vs*Z2),res2 rfl rfl rfl,(λ g w h=>by rw [←star_assoc];exact Dr.sat drqz g w h),l19,e19,a2,c2,vs,Sl 1 (.slice a2 vs.length c2) vs.length vs*Z2,hp19,by rw [hL,hp2],⟨by rw [hL,←hp2];exact hp1,(rs_slo).left,by rw [hL];exact hp3.right⟩,rfl⟩
end Go.Vl

namespace Go.Vl
open Go Go.Proofs Go.Proofs.Tryz
theorem partsR_cases (u:Nat->Bool)(c:Nat->List Nat)(nb cell ref:Nat):(partsR u c nb cell ref).2=0∨partsR u c nb cell ref=([],150):=by
  unfold partsR
  cases partsS u c nb cell (nb+3) ref [] with
  |none=>exact .inr rfl
  |some l=>exact .inl rfl
attribute [local irreducible] crk crL crc Sl pt ro Dev imgS recS readS recsF rdW rdO rkT Parts rvl recordsS runsL adrF kcl xcl kys runA runsF layF ovF TxA adZ WkA comS conB rootV ptsV
theorem Drop15_c {A R:SP}{C:SP->SP}{X:WkX}{Y:WkY}{T:WkT}{s:DevS}(hc:Ct A (WkA X Y s) R C:=by exact cbqz)(hok:WkOk X Y T (s.ls.length*64))(hb:WkB X s)(ho:s.off=false:=by assumption){ref cell:Nat}(hr1:ref<4294967296)(hcell:1<=cell/\ cell<=62):
    Fn Tryz.prog 37 #[.pointer (some ⟨X.w,0,none⟩),.int .u32 ((ref:Nat):Int),vn cell] A (λ r B=>∃l e Y2,partsR (usedB T) (conB T s X.ba) X.n cell ref=(l,e)/\ r= .int .i64 e/\ WkOk X Y2 ((l.map (·.1)).foldl WkT.give T) (s.ls.length*64)/\ B=C (WkA X Y2 s)):=by
  refine fn_enterW func37 rfl ntmps37 (by simp) ?_;obtain ⟨hb1,hb2,hb3⟩:=id hb;have hfp:=fill_pos hcell;refine tc_have (λ _ _ h=>txa_wf (wka_txa hc) _ _ h) λ hwf=> ?_
  obtain ⟨rfl,hC⟩:=hc;refine Zdr ?_;refine Zv ?_;refine tl_c rfl (o_call bd33 rfl (Blocks15_c (X:=X) (Y:=Y) (T:=T) (s:=s) (hok:=hok) (hb:=hb) (hr1:=hr1) (hcell:=hcell))) ?_;rintro _ _ ⟨l16,e16,a16,c16,hp16,rfl,hq16,rfl⟩;obtain ⟨hlc,hln⟩:=hq16;have hrg:=partsR_rows hok hb hwf hp16;have hnd:=partsR_nodup hp16;have hcs:=partsR_cases (usedB T) (conB T s X.ba) X.n cell ref;rw [hp16] at hcs
  obtain ⟨L,hL⟩:∃L,l16.map (·.1)=L:=⟨_,rfl⟩;have hLn:l16.length=L.length:=(by rw [←hL,List.length_map]);rw [hLn] at hlc hln
  rw [hL] at hnd
  have hus:∀b∈L,usedB T b=true:=λ b hb=>by rw [←hL] at hb;obtain ⟨p,hp,rfl⟩:=List.mem_map.1 hb;exact (hrg p hp).u
  rw [hLn,hL]
  refine Zc3 ?_;refine Zbv ?_;refine tc_cond rfl (λ h=> ?_) (λ h=> ?_)
  . have he0:l16=[]:=(by rcases hcs with h1|h1;exact absurd h1 (by first|exact of_decide_eq_true h|simpa using h);exact (Prod.mk.inj h1).1);refine Zb ?_;refine Zhy ?_;exact ⟨.int .i64 e16,C (WkA X Y s),res1 rfl rfl,(λ g w h=>by rw [hC];exact Dr.sat (A':=R*WkA X Y s) drqz g w h),l16,e16,Y,hp16,rfl,by rw [he0];exact hok,rfl⟩
  have he0:e16=0:=(by first|(have h9:=of_decide_eq_false h;omega)|(simp at h;omega));refine Zc4 ?_;refine Zfl ?_;refine tc_loop (λ kk ρ BB=>∃ (i:Nat) (Yi:WkY),(i<=L.length)/\ (WkOk X Yi ((L.take i).foldl WkT.give T) (s.ls.length*64))/\ (∀b∈L.drop i,usedB ((L.take i).foldl WkT.give T) b=true)/\ kk=L.length-i/\ ρ 24=(vn i)/\ ρ 0= .pointer (some ⟨X.w,0,none⟩)/\ ρ 22= .slice a16 L.length c16/\ ρ 23=(vn L.length)/\ Dr BB (R*WkA X Yi s*Sl 1 (.slice a16 L.length c16) L.length (ints (natI L)))) (m:=L.length-(0)) ?_ ?_
  . exact ⟨0,Y,by omega,by rw [List.take_zero];exact hok,by rw [List.take_zero,List.drop_zero];exact hus,rfl,rfl,rfl,rfl,rfl,drqz⟩
  intro k ρ B hI;obtain ⟨i,Yi,hp0,hp1,hp2,hkk1,hE24,hE0,hE22,hE23,hBA⟩:=hI;refine tc_pre hBA.sat ?_;clear hBA;refine te 24 hE24 ?_;refine te 0 hE0 ?_;refine te 22 hE22 ?_;refine te 23 hE23 ?_;refine Zcg ?_;refine tc_cond rfl (λ h=> ?_) (λ h=> ?_)
  . have hi:i<L.length:=(by first|omega|(simp at h;omega));obtain ⟨x,hx⟩:∃x,L[i]=x:=⟨_,rfl⟩;have hxu:=hp2 x (by rw [List.drop_eq_getElem_cons hi,hx];exact List.mem_cons_self ..);refine Zd5 ?_;refine tv (o_ixP1 (a:=a16) (j:=i) underlying34 sz3 rfl rfl oqz (nn_rs (xs:=ints (natI L)) sq0z (by rw [ints_length,natI_len];omega))) ?_;refine tv (o_ldP (a:=a16) (xs:=ints (natI L)) p3 rfl sq0z (natI_at hi)) ?_;refine tl_env (d:=27) (v:=(vn x)) (by show Value.int .i64 ((L[i]:Nat):Int)=_;rw [hx]) ?_;refine Zee ?_;refine tl_c rfl (o_call bd105 rfl (Give13_ok (X:=X) (Y:=Yi) (T:=(L.take i).foldl WkT.give T) (s:=s) (b:=x) (hok:=hp1) (hb:=hb) (hu:=hxu))) ?_;rintro _ _ ⟨Y30,rfl,hok30,rfl⟩;refine Zha ?_;intro h;refine Zgh ?_;exact ⟨_,by omega,i+1,Y30,by omega,by rw [foldl_snoc _ _ _ _ hi,hx];exact hok30,(λ b hb=>(by rw [foldl_snoc _ _ _ _ hi,hx,give_used hp1 hxu,hp2 b (by rw [List.drop_eq_getElem_cons hi];exact List.mem_cons_of_mem _ hb)];have:=mem_drop_ne hnd hi b hb;rw [hx] at this;simp [this])),rfl,rfl,rfl,rfl,rfl,drqz⟩
  obtain rfl:i=L.length:=by first|omega|(simp at h;omega)
  rw [List.take_length] at hp1
  refine Zk ?_;refine Zcv ?_;exact ⟨.int .i64 0,C (WkA X Yi s),res1 rfl rfl,(λ g w h=>by rw [hC];exact Dr.sat (A':=R*WkA X Yi s) drqz g w h),l16,e16,Yi,hp16,by rw [he0],by rw [hL];exact hp1,rfl⟩
end Go.Vl

namespace Go.Vl
open Go Go.Proofs Go.Proofs.Tryz
def wr1 (ba cell:Nat)(s:DevS)(l:List Prt)(k:Nat)(T:WkT):WkT:=match l[k]? with
  |none=>T
  |some p=>if p.fresh=false/\ conB T s ba p.blk.toNat=rowT cell l k then T else T.write ba p.blk.toNat (rowT cell l k)
theorem writeP_step {ba cell:Nat}{s:DevS}{l:List Prt}{j:Nat}{T:WkT}(hj:j+1<=l.length):writeP ba cell s l (j+1) T=writeP ba cell s l j (wr1 ba cell s l (l.length-(j+1)) T):=by
  conv=>lhs;unfold writeP
  unfold wr1
  rw [List.getElem?_eq_getElem (show l.length-(j+1)<l.length by omega)]
theorem tblS_bytes {nx cell:Nat}{cs:List (List Nat)}(h:∀x∈cs,∀y∈x,y<256):∀y∈tblS nx cell cs,y<256:=λ y hy=>by
  unfold tblS at hy
  simp only [List.mem_append,List.mem_flatten,List.mem_replicate] at hy
  rcases hy with (((h1|h1)|h1)|⟨x,h1,h2⟩)|⟨_,rfl⟩
  . exact le_bytes _ _ _ h1
  . exact le_bytes _ _ _ h1
  . exact le_bytes _ _ _ h1
  . exact h x h1 y h2
  decide
theorem flat_take1 {cs:List (List Nat)}{j:Nat}(h:j<cs.length):(cs.take (j+1)).flatten=(cs.take j).flatten++cs[j]:=by
  rw [List.take_succ_eq_append_getElem h,List.flatten_append];simp
attribute [local irreducible] crk crL crc Sl pt ro Dev imgS recS readS recsF rdW rdO rkT Parts rvl recordsS runsL adrF kcl xcl kys runA runsF layF ovF TxA adZ WkA comS conB rootV ptsV
theorem write15_c {A R:SP}{C:SP->SP}{X:WkX}{Y:WkY}{T:WkT}{s:DevS}(hc:Ct A (WkA X Y s) R C:=by exact cbqz)(hok:WkOk X Y T (s.ls.length*64))(hb:WkB X s)(ho:s.off=false:=by assumption){a:Option Addr}{c iq cell:Nat}{xs:List PtV}{l:List Prt}(hcell:1<=cell/\ cell<=62)(hr:Rs R a (ptsV xs l))(hps:PsOk R cell xs l)(hk:iq<l.length)(hfi:l[iq].cells.length<=fillT cell)(hce:∀x∈l[iq].cells,x.length=cell/\∀y∈x,y<256)(hbk:0<=l[iq].blk/\ usedB T l[iq].blk.toNat=true)(hnx:∀p,l[iq+1]? =some p->0<=p.blk/\ p.blk.toNat<X.n)(hll:l.length<=4194304){m:Nat}(hm:l.length=m):
    Fn Tryz.prog 160 #[.pointer (some ⟨X.w,0,none⟩),.slice a m c,vn iq,vn cell] A (λ r B=>∃Y2,r= .int .i64 0/\ WkOk X Y2 (wr1 X.ba cell s l iq T) (s.ls.length*64)/\ B=C (WkA X Y2 s)):=by
  refine fn_enterW func160 rfl ntmps160 (by simp) ?_;obtain ⟨hb1,hb2,hb3⟩:=id hb;have hfp:=fill_pos hcell;refine tc_have (λ _ _ h=>txa_wf (wka_txa hc) _ _ h) λ hwf=> ?_
  obtain ⟨rfl,hC⟩:=hc;have hi2:iq<xs.length:=(by rw [hps.len];exact hk);have hpt:=hps.ok iq hk hi2;obtain ⟨x,hx⟩:∃x,xs[iq]=x:=⟨_,rfl⟩;have hpat:=ptsV_at hk hi2;obtain ⟨p,hp⟩:∃p,l[iq]=p:=⟨_,rfl⟩;rw [hp,hx] at hpt hpat
  rw [hp] at hfi hce hbk
  obtain ⟨hbz,hu⟩:=hbk;obtain ⟨b,hbn⟩:∃b,p.blk.toNat=b:=⟨_,rfl⟩;rw [hbn] at hu
  have hbi:p.blk=((b:Nat):Int):=(by omega);have hun:=used_n hok hu;have hfm:=fill_mul cell p.cells.length hfi;refine Zs ?_;refine Zbj ?_;refine tv (o_ixP underlying198 sz203 rfl rfl oqz (nn_rs (xs:=ptsV xs l) (by repeat (first|exact hr|apply Rs.left)) (λ _=>by rw [ptsV_len hps.len];omega))) ?_;refine tv (o_ldPN (vs:=x.cells p) a203 sz203 rfl (by repeat (first|exact hr|apply Rs.left)) hpat rfl (by decide)) ?_;refine tl_x rfl (o_alloc (l:=[.int .i64 0,.slice none 0 0,.bool false]) z203 rfl) ?_;rintro _ _ ⟨b9,rfl,rfl⟩;refine tl_u rfl (o_stUN (l':=x.cells p) rfl upqz sz203 rfl rfl rfl (by exact Nat.le_refl 3) rfl) ?_;refine nq ?_;refine Zdd ?_;refine tv adqz ?_;refine tlm ?_;refine tv (o_len underlying198 rfl) ?_;refine Zu ?_;refine tc_cut (λ ρ BB=>∃ (nx:Nat),(nx=((l[iq+1]?).map (λ p=>p.blk.toNat+1)).getD 0)/\ (nx<4294967296)/\ ρ 10= .int .u32 ((nx:Nat):Int)/\ ρ 0= .pointer (some ⟨X.w,0,none⟩)/\ ρ 3=(vn cell)/\ ρ 9=(pz b9)/\ Dr BB (R*WkA X Y s*pt b9 (cl (x.cells p) 203))) ?_ ?_
  . skip
    refine tc_cond rfl (λ h=> ?_) (λ h=> ?_)
    . have hk1:iq+1<l.length:=(by first|omega|(simp at h;omega));obtain ⟨hn1,hn2⟩:=hnx _ (List.getElem?_eq_getElem hk1);have hi4:iq+1<xs.length:=(by rw [hps.len];exact hk1);obtain ⟨nb,hnb⟩:∃nb,l[iq+1].blk.toNat=nb:=⟨_,rfl⟩;rw [hnb] at hn2
      have hnbi:l[iq+1].blk=((nb:Nat):Int):=(by omega);have hnx0:nb+1=((l[iq+1]?).map (λ p=>p.blk.toNat+1)).getD 0:=(by rw [List.getElem?_eq_getElem hk1,Option.map_some,Option.getD_some,hnb]);refine Zb5 ?_;refine tv adqz ?_;refine tl_env (d:=27) (v:=(vn (iq+1))) (by first|rfl|exact congrArg (Value.int .i64) oqz) ?_;refine tv (o_ixP (j:=iq+1) underlying198 sz203 rfl rfl oqz (nn_rs (xs:=ptsV xs l) (by repeat (first|exact hr|apply Rs.left)) (λ _=>by rw [ptsV_len hps.len];omega))) ?_;refine tv (o_faP (m:=0) (o:=0) underlying203 rfl rfl sz3 rfl (nn_rs (xs:=ptsV xs l) (by repeat (first|exact hr|apply Rs.left)) (λ _=>by rw [ptsV_len hps.len];omega))) ?_;refine tv (o_ldP (xs:=ptsV xs l) (v:= .int .i64 l[iq+1].blk) p3 rfl (by repeat (first|exact hr|apply Rs.left)) ((ptsV_get (i:=iq+1) (j:=0) hk1 hi4 (by decide)).trans rfl)) ?_;refine tl_env (d:=30) (v:=(vn nb)) (by show Value.int .i64 l[iq+1].blk=_;rw [hnbi]) ?_;refine tv (o_addI rfl rfl oqz) ?_;refine tl_env (d:=31) (v:=(vn (nb+1))) (by first|rfl|exact congrArg (Value.int .i64) oqz) ?_;refine tv (o_conv32 (a:=nb+1) underlying3 underlying53 rfl) ?_;refine tl_env (d:=32) (v:= .int .u32 ((nb+1:Nat):Int)) (congrArg (λ z:Nat=>Value.int .u32 (z:Int)) (Nat.mod_eq_of_lt oqz)) ?_;refine Zbn ?_;exact ⟨nb+1,hnx0,by omega,rfl,rfl,rfl,rfl,drqz⟩
    have hnx0:0=((l[iq+1]?).map (λ p=>p.blk.toNat+1)).getD 0:=(by rw [List.getElem?_eq_none (by first|omega|(simp at h;omega))];rfl);refine tc_skip ?_;exact ⟨0,hnx0,by omega,rfl,rfl,rfl,rfl,drqz⟩
  intro ρ B hI;obtain ⟨nx,hj0,hj1,hE10,hE0,hE3,hE9,hBA⟩:=hI;refine q_then_n ?_;refine tc_pre hBA.sat ?_;clear hBA;refine te 10 hE10 ?_;refine te 0 hE0 ?_;refine te 3 hE3 ?_;refine te 9 hE9 ?_;refine tc_seq ?_;have hrow:rowT cell l iq=tblS nx cell p.cells:=(by unfold rowT;rw [←hj0,List.getElem?_eq_getElem hk,hp];rfl);refine Zbq ?_;refine tl_c rfl (o_call bd74 rfl (Put32_c (xs:=[]) (v:=nx))) ?_;rintro _ _ ⟨a34,c34,rfl,hc34,rfl⟩;refine tl_env (d:=34) (v:= .slice a34 4 c34) (rfl) ?_;refine Zbu ?_;refine Zb0 ?_;refine tl_env (d:=37) (v:= .slice x.a p.cells.length x.c) (rfl) ?_;refine tv (o_len underlying35 rfl) ?_;refine tv (o_conv16 (a:=p.cells.length) underlying3 underlying287 rfl) ?_;refine tl_env (d:=39) (v:= .int .u16 ((p.cells.length:Nat):Int)) (congrArg (λ z:Nat=>Value.int .u16 (z:Int)) (Nat.mod_eq_of_lt oqz)) ?_;refine tl_c rfl (o_call bd232 rfl (Put16_c (m:=4) (xs:=[]++le 4 nx) (v:=p.cells.length) (hr:=rs_sl) (hm:=by rw [List.nil_append,le_length]))) ?_;rintro _ _ ⟨a40,c40,rfl,hc40,rfl⟩;refine tl_env (d:=40) (v:= .slice a40 6 c40) (rfl) ?_;refine Zee ?_;refine tv (o_conv16 (a:=cell) underlying3 underlying287 rfl) ?_;refine tl_env (d:=43) (v:= .int .u16 ((cell:Nat):Int)) (congrArg (λ z:Nat=>Value.int .u16 (z:Int)) (Nat.mod_eq_of_lt oqz)) ?_;refine tl_c rfl (o_call bd232 rfl (Put16_c (m:=6) (xs:=[]++le 4 nx++le 2 p.cells.length) (v:=cell) (hr:=rs_sl) (hm:=by simp only [List.nil_append,List.length_append,le_length]))) ?_;rintro _ _ ⟨a44,c44,rfl,hc44,rfl⟩;refine tl_env (d:=44) (v:= .slice a44 8 c44) (rfl) ?_;refine Zeh ?_;refine sr ?_;refine Zb0 ?_;refine tl_env (d:=46) (v:= .slice x.a p.cells.length x.c) (rfl) ?_;refine Zfk ?_;refine tc_pre (A':=R*WkA X Y s*pt b9 (cl (x.cells p) 203)*Sl 1 (.slice a44 8 c44) 8 (bys (le 4 nx++le 2 p.cells.length++le 2 cell++(p.cells.take 0).flatten))) (λ _ _ h=>by rw [List.take_zero,List.flatten_nil,List.append_nil];exact Dr.sat drqz _ _ h) ?_;refine tc_loop (λ kk ρ BB=>∃ (j:Nat) (a3:Option Addr) (m3:Nat) (c3:Nat),(j<=p.cells.length)/\ (m3=8+j*cell/\ m3<=c3)/\ kk=p.cells.length-j/\ ρ 11= .slice a3 m3 c3/\ ρ 48=(vn j)/\ ρ 0= .pointer (some ⟨X.w,0,none⟩)/\ ρ 9=(pz b9)/\ ρ 46= .slice x.a p.cells.length x.c/\ ρ 47=(vn p.cells.length)/\ Dr BB (R*WkA X Y s*pt b9 (cl (x.cells p) 203)*Sl 1 (.slice a3 m3 c3) m3 (bys (le 4 nx++le 2 p.cells.length++le 2 cell++(p.cells.take j).flatten)))) (m:=p.cells.length-(0)) ?_ ?_
  . exact ⟨0,a44,8,c44,Nat.zero_le _,⟨by rw [Nat.zero_mul],hc44⟩,rfl,rfl,rfl,rfl,rfl,rfl,rfl,drqz⟩
  intro k ρ B hI;obtain ⟨j,a3,m3,c3,hp0,hp1,hkk1,hE11,hE48,hE0,hE9,hE46,hE47,hBA⟩:=hI;refine tc_pre hBA.sat ?_;clear hBA;refine te 11 hE11 ?_;refine te 48 hE48 ?_;refine te 0 hE0 ?_;refine te 9 hE9 ?_;refine te 46 hE46 ?_;refine te 47 hE47 ?_;refine Zcg ?_;refine tc_cond rfl (λ h=> ?_) (λ h=> ?_)
  . have hj:j<p.cells.length:=(by first|omega|(simp at h;omega));obtain ⟨ra,rc,hrv,hrr⟩:=hpt.w.2 j hj;obtain ⟨y,hy⟩:∃y,p.cells[j]=y:=⟨_,rfl⟩;rw [hy] at hrr
    have hyl:=(hce y (hy▸List.getElem_mem hj)).1;have hjm:(j+1)*cell<=p.cells.length*cell:=Nat.mul_le_mul_right _ hj;rw [Nat.succ_mul] at hjm
    have hpl:=hpt.w.1;have hm3:=hp1.1;refine Zd5 ?_;refine tv (o_ixP1 (a:=x.a) underlying35 sz67 rfl rfl oqz (nn_rs (xs:=x.vs) (by repeat (first|exact hpt.r|apply Rs.left)) (λ _=>by rw [hpl];omega))) ?_;refine tv (o_ldP (a:=x.a) (xs:=x.vs) p67 rfl (by repeat (first|exact hpt.r|apply Rs.left)) hrv) ?_;refine Zhu ?_;refine tl_x rfl (o_apR (ys:=bys y) underlying67 underlying67 sz5 by5 z5 rfl (by decide) (by decide) rfl rfl ctqz (by repeat (first|exact hrr|apply Rs.left)) (by rw [bys_length,hyl,Nat.mul_one]) (bys_all _) oqz (show bys _++bys y=bys (le 4 nx++le 2 p.cells.length++le 2 cell++(p.cells.take (j+1)).flatten) by rw [flat_take1 hj,hy,←List.append_assoc];exact (bys_append _ _).symm)) ?_;rintro _ _ ⟨a54,c54,rfl,hc54,rfl⟩;refine Zep ?_;exact ⟨_,by omega,j+1,_,m3+cell,_,by omega,⟨by rw [hp1.1,Nat.succ_mul];omega,hc54⟩,rfl,rfl,rfl,rfl,rfl,rfl,rfl,drqz⟩
  obtain rfl:j=p.cells.length:=by first|omega|(simp at h;omega)
  obtain ⟨hm3,hmc⟩:=hp1;have hfl:=flat_len (λ x hx=>(hce x hx).1);rw [List.take_length]
  have htl:=tblS_len (next:=nx) (λ x hx=>(hce x hx).1) hfi;have htb:=tblS_bytes (nx:=nx) (cell:=cell) (λ x hx=>(hce x hx).2);refine Zk ?_;refine Zbj ?_;refine tv (o_len underlying67 rfl) ?_;refine tv (o_subI rfl rfl oqz) ?_;refine tl_x rfl (o_apRZ underlying67 underlying3 sz5 by5 z5 rfl (by decide) (by decide) rfl (show _=Value.int .i64 ((256-m3:Nat):Int) from congrArg (Value.int .i64) oqz) ctqz (zrepB _) (by rw [bys_length,List.length_replicate,Nat.mul_one]) (bys_all _) oqz (show bys _++bys (List.replicate (256-m3) 0)=bys (tblS nx cell p.cells) by unfold tblS;rw [hfl,show 256-m3=248-p.cells.length*cell by omega];exact (bys_append _ _).symm)) ?_;rintro _ _ ⟨a60,c60,rfl,hc60,rfl⟩;rw [show m3+(256-m3)=256 by omega] at*
  refine Zeh ?_;refine sr ?_;refine tv (o_fieldAddr (o:=2) underlying203 rfl rfl sz4 rfl) ?_;refine tv (o_load p4 rfl hsqz rfl) ?_;refine tl_env (d:=62) (v:= .bool p.fresh) (rfl) ?_;refine Zh0 ?_;refine tc_cond rfl (λ h=> ?_) (λ h=> ?_)
  . have hfr:p.fresh=false:=(by simpa using h);refine Zb ?_;refine Zbr ?_;refine tl_env (d:=67) (v:=(vn b)) (by show Value.int .i64 p.blk=_;rw [hbi]) ?_;refine tl_c rfl (o_call bd148 rfl (Read13_c (X:=X) (Y:=Y) (T:=T) (s:=s) (hok:=hok) (hb:=hb) (b:=((b:Nat):Int)))) ?_;rintro _ _ ⟨a68,m68,c68,e68,xs68,rfl,hr68,rfl⟩;rw [usedZ_nat,Int.toNat_natCast] at hr68
    obtain ⟨_,rfl,rfl,hc7,rfl⟩|⟨h9,_⟩:=hr68
    rotate_left
    . exact absurd (hu.symm.trans h9) (by decide)
    have hcl:=con_len (T:=T) (s:=s) (ba:=X.ba) (b:=b) (by rw [imgS_len hwf];omega);refine Zey ?_;refine Zdf ?_;refine tl_bool (d:=73) rfl dbq (sbq ?_);intro h;refine Zv ?_;refine tl_c rfl (o_call bd159 rfl (Equal_c (xs:=conB T s X.ba b) (ys:=tblS nx cell p.cells) (h1:=rs_sl) (h2:=(by repeat (first|with_reducible exact rs_sl|apply Rs.left))) (hx:=hcl) (hy:=htl) (hn:=by decide) (hm:=by decide) (hc1:=by decide) (hc2:=by decide) (bx:=con_lt hok) (by_:=htb))) ?_;rintro _ _ ⟨rfl,rfl⟩;refine tv (o_pick_f rfl wqz) ?_;refine nq ?_;refine tc_cond rfl (λ h=> ?_) (λ h=> ?_)
    . have heq:conB T s X.ba b=tblS nx cell p.cells:=(by first|exact of_decide_eq_true h|simpa using h);refine Zb ?_;refine Zhy ?_;have hR9:wr1 X.ba cell s l iq T=T:=(by unfold wr1;rw [List.getElem?_eq_getElem hk,hp];dsimp only;rw [hbn,hrow];exact if_pos ⟨hfr,heq⟩);exact ⟨.int .i64 0,C (WkA X Y s),res1 rfl rfl,(λ g w h=>by rw [hC];exact Dr.sat (A':=R*WkA X Y s) drqz g w h),Y,rfl,by rw [hR9];first|exact hok|assumption,rfl⟩
    have heq:¬conB T s X.ba b=tblS nx cell p.cells:=(by first|exact of_decide_eq_false h|simpa using h);refine Zb9 ?_;refine Zbr ?_;refine tl_env (d:=81) (v:=(vn b)) (by show Value.int .i64 p.blk=_;rw [hbi]) ?_;refine tlm ?_;refine tl_c rfl (o_call bd107 rfl (Write13_ok (X:=X) (Y:=Y) (T:=T) (s:=s) (b:=b) (xs:=tblS nx cell p.cells) (hok:=hok) (hb:=hb) (hu:=hu) (hr:=by repeat (first|with_reducible exact rs_sl|apply Rs.left)) (hxl:=htl) (hxb:=htb))) ?_;rintro _ _ ⟨Y83,rfl,hok83,rfl⟩;refine Zbd ?_;have hR9:wr1 X.ba cell s l iq T=T.write X.ba b (tblS nx cell p.cells):=(by unfold wr1;rw [List.getElem?_eq_getElem hk,hp];dsimp only;rw [hbn,hrow];exact if_neg (λ h9=>heq h9.2));exact ⟨.int .i64 0,C (WkA X Y83 s),res1 rfl rfl,(λ g w h=>by rw [hC];exact Dr.sat (A':=R*WkA X Y83 s) drqz g w h),Y83,rfl,by rw [hR9];first|exact hok|assumption,rfl⟩
  have hfr:¬p.fresh=false:=(by simpa using h);refine Zb9 ?_;refine Zbr ?_;refine tl_env (d:=81) (v:=(vn b)) (by show Value.int .i64 p.blk=_;rw [hbi]) ?_;refine tlm ?_;refine tl_c rfl (o_call bd107 rfl (Write13_ok (X:=X) (Y:=Y) (T:=T) (s:=s) (b:=b) (xs:=tblS nx cell p.cells) (hok:=hok) (hb:=hb) (hu:=hu) (hr:=by repeat (first|with_reducible exact rs_sl|apply Rs.left)) (hxl:=htl) (hxb:=htb))) ?_;rintro _ _ ⟨Y83,rfl,hok83,rfl⟩;refine Zbd ?_;have hR9:wr1 X.ba cell s l iq T=T.write X.ba b (tblS nx cell p.cells):=(by unfold wr1;rw [List.getElem?_eq_getElem hk,hp];dsimp only;rw [hbn,hrow];exact if_neg (λ h9=>hfr h9.1));exact ⟨.int .i64 0,C (WkA X Y83 s),res1 rfl rfl,(λ g w h=>by rw [hC];exact Dr.sat (A':=R*WkA X Y83 s) drqz g w h),Y83,rfl,by rw [hR9];first|exact hok|assumption,rfl⟩
end Go.Vl

namespace Go.Vl
open Go Go.Proofs Go.Proofs.Tryz
def fitP (fill:Nat)(out:List Prt)(n:Nat):Bool:=match out.getLast? with
  |none=>false
  |some q=>decide (q.cells.length+n<=fill)
theorem fitP_at {fill n:Nat}{l:List Prt}(h:0<l.length):fitP fill l n=decide ((l[l.length-1]'oqz).cells.length+n<=fill):=by
  unfold fitP
  rw [List.getLast?_eq_getElem?,List.getElem?_eq_getElem oqz]
theorem fitP_nil {fill n:Nat}{l:List Prt}(h:¬0<l.length):fitP fill l n=false:=by
  obtain rfl:l=[]:=List.eq_nil_of_length_eq_zero oqz
  rfl
theorem fitP_pos {fill n:Nat}{l:List Prt}(h:fitP fill l n=true):0<l.length:=Classical.byContradiction λ h9=>by rw [fitP_nil h9] at h;cases h
theorem stpT_no {fill:Nat}{l:List Prt}{p:Prt}(h:fitP fill l p.cells.length=false):stpT fill l p=l++[p]:=by
  rcases snoc_cases l with rfl|⟨k,q,rfl⟩
  . rfl
  rw [stpT_snoc,if_neg]
  intro h9;rw [fitP_at (by simp)] at h
  simp at h
  omega
theorem stpT_yes {fill:Nat}{l:List Prt}{p q:Prt}(h:fitP fill l p.cells.length=true)(hq:l[l.length-1]? =some q):stpT fill l p=l.set (l.length-1) ⟨if q.blk= -1 then p.blk else q.blk,q.cells++p.cells,q.fresh⟩:=by
  rcases snoc_cases l with rfl|⟨k,q2,rfl⟩
  . cases h
  have e:(k++[q2]).length-1=k.length:=(by simp);rw [e] at hq ⊢
  obtain rfl:q2=q:=by simpa using hq
  rw [fitP_at (by simp)] at h
  simp at h
  rw [stpT_snoc,if_pos h]
  simp
theorem settle_take {fill i:Nat}{l:List Prt}(h:i<l.length):settleS fill (l.take (i+1))=stpT fill (settleS fill (l.take i)) l[i]:=by
  rw [List.take_succ_eq_append_getElem h]
  unfold settleS
  rw [List.foldl_append];rfl
theorem dr_yz {A Y0 X Z:SP}(h:Dr A Y0):Dr (A*X*Z) (Y0*Z):=dr_keep (dr_drop h)
theorem pts_nil2:ptsV ([]:List PtV) ([]:List Prt)=[]:=by unfold ptsV;rfl
theorem pts_cellP {xs:List PtV}{l:List Prt}{i:Nat}(h:i<l.length)(h2:i<xs.length):(ptsV xs l)[i*3+1]? =some (.slice xs[i].a l[i].cells.length xs[i].c):=(ptsV_get h h2 (by decide)).trans rfl
theorem ptsV_splice:∀{xs:List PtV} {l:List Prt} {i:Nat} {x:PtV} {p:Prt} (h:i<l.length) (h2:i<xs.length),splice (ptsV xs l) (i*3) (x.cells p)=ptsV (xs.set i x) (l.set i p)
  |y::xs,q::l,0,x,p,_,_=>by
    rw [ptsV_cons,Nat.zero_mul,List.set_cons_zero,List.set_cons_zero,ptsV_cons]
    rfl
  |y::xs,q::l,i+1,x,p,h,h2=>by
    have hl:(ptsV xs l).length=(ptsV xs l).length:=rfl;have ih:=ptsV_splice (xs:=xs) (l:=l) (i:=i) (x:=x) (p:=p) (by simpa using h) (by simpa using h2);rw [ptsV_cons,List.set_cons_succ,List.set_cons_succ,ptsV_cons,←ih,Nat.succ_mul]
    show splice (_::_::_::ptsV xs l) (i*3+3) _=_::_::_::splice (ptsV xs l) (i*3) _
    rfl
  |[],_,_,_,_,_,h=>by simp at h
  |_::_,[],_,_,_,h,_=>by simp at h
attribute [local irreducible] crk crL crc Sl pt ro Dev imgS recS readS recsF rdW rdO rkT Parts rvl recordsS runsL adrF kcl xcl kys runA runsF layF ovF TxA adZ WkA comS conB rootV ptsV
theorem Zhb {p r:Prop}(k:r)(h:Kq r->p:=by intro k;refine tm 5 rfl kqz rfl (o_fieldAddr (o:=1) underlying203 rfl rfl sz35 rfl) ?_;refine tm 6 rfl kqz rfl (o_load p35 rfl hsqz rfl) ?_;exact k.o):p:=h ⟨k⟩
theorem settle15_c {A Y0:SP}{a:Option Addr}{c cell fill:Nat}{xs:List PtV}{l:List Prt}(hY:Dr A Y0)(hr:Rs A a (ptsV xs l))(hps:PsOk Y0 cell xs l)(hne:∀p∈l,OkP fill p)(hf:fill<=248)(hll:l.length<=4194304){m:Nat}(hm:l.length=m):
    Fn Tryz.prog 125 #[.slice a m c,vn fill] A (λ r B=>∃a2 c2 xs2 l2 Z,settleS fill l=l2/\ r= .slice a2 l2.length c2/\ (l2.length<=c2/\ l2.length<=l.length/\ PsOk (Y0*Z) cell xs2 l2)/\ B=A*Sl 3 (.slice a2 l2.length c2) l2.length (ptsV xs2 l2)*Z):=by
  refine fn_enterW func125 rfl ntmps125 (by simp) ?_;subst hm;refine Zs ?_;refine tc_scope (l:=0) (λ ρ BB=>ρ 5= .slice none 0 0/\ ρ 0= .slice a l.length c/\ ρ 1=(vn fill)/\ Dr BB (A)) rfl ?_ ?_
  . intro ρ B hI;obtain ⟨hE5,hE0,hE1,hBA⟩:=hI;refine tc_pre hBA.sat ?_;clear hBA;refine te 5 hE5 ?_;refine te 0 hE0 ?_;refine te 1 hE1 ?_;refine Zgx ?_;refine tc_pre (A':=A*Sl 3 (.slice none 0 0) 0 []*Sl 1 (.slice none 0 0) 0 []) (λ _ _ h=>sl_nil (sl_nil h)) ?_;refine tc_loop (λ kk ρ BB=>∃ (i:Nat) (a2:Option Addr) (c2:Nat) (xs2:List PtV) (l2:List Prt) (Z:SP),(i<=l.length)/\ (l2.length<=c2/\ l2.length<=i)/\ (PsOk (Y0*Z) cell xs2 l2)/\ (l2=settleS fill (l.take i))/\ kk=l.length-i/\ ρ 5= .slice a2 l2.length c2/\ ρ 13=(vn i)/\ ρ 1=(vn fill)/\ ρ 11= .slice a l.length c/\ ρ 12=(vn l.length)/\ Dr BB (A*Sl 3 (.slice a2 l2.length c2) l2.length (ptsV xs2 l2)*Z)) (m:=l.length-(0)) ?_ ?_
    . exact ⟨0,none,0,([]:List PtV),([]:List Prt),Sl 1 (.slice none 0 0) 0 [],Nat.zero_le _,⟨Nat.zero_le _,Nat.zero_le _⟩,ps_nil _ _,by rw [List.take_zero];rfl,rfl,rfl,rfl,rfl,rfl,rfl,by rw [pts_nil2];exact dr_refl⟩
    intro k ρ B hI;obtain ⟨i,a2,c2,xs2,l2,Z,hp0,hp1,hp2,hp3,hkk1,hE5,hE13,hE1,hE11,hE12,hBA⟩:=hI;refine tc_pre hBA.sat ?_;clear hBA;refine te 5 hE5 ?_;refine te 13 hE13 ?_;refine te 1 hE1 ?_;refine te 11 hE11 ?_;refine te 12 hE12 ?_;refine Zcg ?_;refine tc_cond rfl (λ h=> ?_) (λ h=> ?_)
    . have hi:i<l.length:=(by first|omega|(simp at h;omega));have hi2:i<xs.length:=(by rw [hps.len];exact hi);have hpt:=hps.ok i hi hi2;have hst:=settle_take (fill:=fill) hi;rw [←hp3] at hst
      have hl2k:∀q∈l2,OkP fill q:=λ q hq=>settle_ok (l.take i) [] (λ q hq=>(by cases hq)) (λ q hq=>hne q (List.mem_of_mem_take hq)) q (by rw [hp3] at hq;exact hq)
      have hpk:=hne _ (List.getElem_mem hi);obtain ⟨p,hp⟩:∃p,l[i]=p:=⟨_,rfl⟩;obtain ⟨x,hx⟩:∃x,xs[i]=x:=⟨_,rfl⟩;have hpat:((ptsV xs l).drop (i*3)).take 3=x.cells p:=(by rw [ptsV_at hi hi2,hp,hx]);rw [hp] at hst hpk
      rw [hp,hx] at hpt
      obtain ⟨hpk1,hpk2⟩:=hpk;obtain ⟨hl2c,hl2i⟩:=hp1;have hxl2:=hp2.len;refine Zd5 ?_;refine tv (o_ixP underlying198 sz203 rfl rfl oqz (nn_rs (xs:=ptsV xs l) (by repeat (first|exact hr|apply Rs.left)) (λ _=>by rw [ptsV_len hps.len];omega))) ?_;refine tv (o_ldPN (vs:=x.cells p) a203 sz203 rfl (by repeat (first|exact hr|apply Rs.left)) hpat rfl (by decide)) ?_;refine tl_x rfl (o_alloc (l:=[.int .i64 0,.slice none 0 0,.bool false]) z203 rfl) ?_;rintro _ _ ⟨b7,rfl,rfl⟩;refine tl_u rfl (o_stUN (l':=x.cells p) rfl upqz sz203 rfl rfl rfl (by exact Nat.le_refl 3) rfl) ?_;refine nq ?_;refine Zch ?_;refine tv (o_subI rfl rfl oqz) ?_;refine Zeh ?_;refine tc_cut (λ ρ BB=>∃ (bb:Bool),(bb=fitP fill l2 p.cells.length)/\ ρ 35= .bool bb/\ ρ 1=(vn fill)/\ ρ 5= .slice a2 l2.length c2/\ ρ 7=(pz b7)/\ ρ 8= .int .i64 ((l2.length:Nat)-1:Int)/\ ρ 11= .slice a l.length c/\ ρ 12=(vn l.length)/\ ρ 13=(vn i)/\ Dr BB (A*Sl 3 (.slice a2 l2.length c2) l2.length (ptsV xs2 l2)*Z*pt b7 (cl (x.cells p) 203))) ?_ ?_
      . skip
        refine Zgt ?_;refine ql_v rfl (o_geq rfl rfl) ?_;refine ql_v rfl (o_move wqz) ?_;refine ql_bool (d:=22) rfl (sbq ?_) (sbq ?_)
        . intro h;refine Zd2 ?_;refine ql_env (d:=24) (v:=(vn (l2.length-1))) (congrArg (Value.int .i64) oqz) ?_;refine ql_v rfl (o_ixP (j:=l2.length-1) underlying198 sz203 rfl rfl oqz (nn_rs (xs:=ptsV xs2 l2) sq0z (λ _=>by rw [ptsV_len hxl2];omega))) ?_;refine ql_v rfl (o_faP (m:=0) (o:=1) underlying203 rfl rfl sz35 rfl (nn_rs (xs:=ptsV xs2 l2) sq0z (λ _=>by rw [ptsV_len hxl2];omega))) ?_;refine ql_v rfl (o_ldP (xs:=ptsV xs2 l2) p35 rfl sq0z (pts_cellP (i:=l2.length-1) oqz oqz)) ?_;refine Zhp ?_;refine ql_v rfl (o_load p35 rfl hsqz rfl) ?_;refine ql_env (d:=30) (v:= .slice x.a p.cells.length x.c) (rfl) ?_;refine ql_v rfl (o_len underlying35 rfl) ?_;refine ql_v rfl (o_addI rfl rfl (by have:=(hl2k _ (List.getElem_mem (show l2.length-1<l2.length by omega))).2;omega)) ?_;refine ql_v rfl (o_move wqz) ?_;refine ql_v rfl (o_leq rfl rfl) ?_;refine Zei ?_;exact ⟨_,by first|(rw [fitP_nil oqz];done)|(rw [fitP_at oqz,decide_eq_decide];omega),rfl,rfl,rfl,rfl,rfl,rfl,rfl,rfl,drqz⟩
        intro h;refine Zh6 ?_;refine Zg2 ?_;exact ⟨_,by first|(rw [fitP_nil oqz];done)|(rw [fitP_at oqz,decide_eq_decide];omega),rfl,rfl,rfl,rfl,rfl,rfl,rfl,rfl,drqz⟩
      intro ρ B hI;obtain ⟨bb,hbb0,hE35,hE1,hE5,hE7,hE8,hE11,hE12,hE13,hBA⟩:=hI;refine q_then_n ?_;refine tc_pre hBA.sat ?_;clear hBA;refine te 35 hE35 ?_;refine te 1 hE1 ?_;refine te 5 hE5 ?_;refine te 7 hE7 ?_;refine te 8 hE8 ?_;refine te 11 hE11 ?_;refine te 12 hE12 ?_;refine te 13 hE13 ?_;refine tc_cond rfl (λ h=> ?_) (λ h=> ?_)
      . have hfit:fitP fill l2 p.cells.length=true:=(by rw [←hbb0];exact h);have h0:=fitP_pos hfit;have hj1:l2.length-1<l2.length:=(by omega);have hj2:l2.length-1<xs2.length:=(by omega);obtain ⟨q,hq⟩:∃q,l2[l2.length-1]=q:=⟨_,rfl⟩;obtain ⟨xq,hxq⟩:∃xq,xs2[l2.length-1]=xq:=⟨_,rfl⟩;have hyes:=stpT_yes hfit (by rw [List.getElem?_eq_getElem hj1,hq]);rw [hyes] at hst
        have hqt:=hp2.ok _ hj1 hj2;have hqk:=(hl2k _ (List.getElem_mem hj1)).2;rw [hq] at hqk
        rw [hq,hxq] at hqt
        have hqat:((ptsV xs2 l2).drop ((l2.length-1)*3)).take 3=xq.cells q:=(by rw [ptsV_at hj1 hj2,hq,hxq]);have hqw:=hqt.w.1;have hpw:=hpt.w.1;have hqc:=hqt.c;refine Zbj ?_;refine tl_env (d:=37) (v:=(vn (l2.length-1))) (congrArg (Value.int .i64) oqz) ?_;refine tv (o_ixP (j:=l2.length-1) underlying198 sz203 rfl rfl oqz (nn_rs (xs:=ptsV xs2 l2) sq0z (λ _=>by rw [ptsV_len hxl2];omega))) ?_;refine tv (o_ldPN (vs:=xq.cells q) a203 sz203 rfl sq0z hqat rfl (by decide)) ?_;refine tl_x rfl (o_alloc (l:=[.int .i64 0,.slice none 0 0,.bool false]) z203 rfl) ?_;rintro _ _ ⟨b9,rfl,rfl⟩;refine tl_u rfl (o_stUN (l':=xq.cells q) rfl upqz sz203 rfl rfl rfl (by exact Nat.le_refl 3) rfl) ?_;refine nq ?_;refine sr ?_;refine Zb0 ?_;refine tl_env (d:=41) (v:= .slice xq.a q.cells.length xq.c) (rfl) ?_;refine tv (o_len underlying35 rfl) ?_;refine Zeh ?_;refine tc_regh (S:=A*Sl 3 (.slice a2 l2.length c2) l2.length (ptsV xs2 l2)*Z*pt b7 (cl (x.cells p) 203)) mo drqz ?_
        show TH _ _ _ _ _ 10 (Array.replicate 10 false) _ _
        refine tm 0 rfl kqz rfl (o_fieldAddr (o:=1) underlying203 rfl rfl sz35 rfl) ?_;refine Zc9 ?_;refine Zhb ?_;refine th_env (d:=49) (v:= .slice x.a p.cells.length x.c) (rfl) ?_;refine th_one (i:=1) kqz ?_;refine oh_v rfl rfl rfl (o_load p35 rfl hsqz rfl) ?_;refine th_env (d:=44) (v:= .slice xq.a q.cells.length xq.c) (rfl) ?_;refine tm 4 rfl kqz rfl (o_slice3n (h:=q.cells.length) (m:=q.cells.length) underlying35 sz67 rfl rfl rfl (Nat.le_refl _) hqc) ?_;refine th_one (i:=7) kqz ?_;refine oh_x rfl rfl rfl (o_apQ (q:=q.cells.length) (xs:=xq.vs) (ys:=x.vs) underlying35 underlying35 sz67 by67 z67 rfl (by decide) (by decide) rfl rfl (by repeat (first|exact hqt.r.dr (dr_yz hY)|apply Rs.left)) (by rw [Nat.mul_one];exact hqw) (by repeat (first|exact hpt.r.dr hY|apply Rs.left)) (by rw [Nat.mul_one];exact hpw) oqz (rw_one_all hpt.w) oqz rfl) ?_;rintro _ _ ⟨a50,c50,rfl,hc50,rfl⟩;refine Zdn ?_;refine th_one (i:=9) kqz ?_;refine oh_u rfl rfl rfl (o_stU (l':=[.int .i64 q.blk,.slice a50 (q.cells.length+p.cells.length) c50,.bool q.fresh]) rfl upqz sz35 rfl rfl (by show 1<3;decide) rfl) drqz ?_;refine Zbs ?_;refine Zfc ?_;refine Zbr ?_;refine tl_env (d:=53) (v:= .int .i64 q.blk) (rfl) ?_;refine Zcr ?_;refine tc_cut (λ ρ BB=>∃ (bq:Int),(bq=if q.blk= -1 then p.blk else q.blk)/\ ρ 1=(vn fill)/\ ρ 5= .slice a2 l2.length c2/\ ρ 8= .int .i64 ((l2.length:Nat)-1:Int)/\ ρ 9=(pz b9)/\ ρ 11= .slice a l.length c/\ ρ 12=(vn l.length)/\ ρ 13=(vn i)/\ Dr BB (A*Sl 3 (.slice a2 l2.length c2) l2.length (ptsV xs2 l2)*Z*pt b7 (cl (x.cells p) 203)*pt b9 (cl [.int .i64 bq,.slice a50 (q.cells.length+p.cells.length) c50,.bool q.fresh] 203)*Sl 1 (.slice a50 (q.cells.length+p.cells.length) c50) (q.cells.length+p.cells.length) (xq.vs++x.vs))) ?_ ?_
        . skip
          refine tc_cond rfl (λ h=> ?_) (λ h=> ?_)
          . have hqb:q.blk= -1:=(by first|exact of_decide_eq_true h|simpa using h);refine tc_reg ?_;refine Zbr ?_;refine tl_env (d:=56) (v:= .int .i64 p.blk) (rfl) ?_;refine tv (o_fieldAddr (o:=0) underlying203 rfl rfl sz3 rfl) ?_;refine tl_u rfl (o_stU (l':=[.int .i64 p.blk,.slice a50 (q.cells.length+p.cells.length) c50,.bool q.fresh]) rfl upqz sz3 rfl rfl (by show 0<3;decide) rfl) ?_;refine tl_nil ?_;exact ⟨p.blk,by first|exact (if_pos hqb).symm|exact (if_neg hqb).symm,rfl,rfl,rfl,rfl,rfl,rfl,rfl,drqz⟩
          have hqb:¬q.blk= -1:=(by first|exact of_decide_eq_false h|simpa using h);refine tc_skip ?_;exact ⟨q.blk,by first|exact (if_pos hqb).symm|exact (if_neg hqb).symm,rfl,rfl,rfl,rfl,rfl,rfl,rfl,drqz⟩
        intro ρ B hI;obtain ⟨bq,hj0,hE1,hE5,hE8,hE9,hE11,hE12,hE13,hBA⟩:=hI;refine q_then_n ?_;refine tc_pre hBA.sat ?_;clear hBA;refine te 1 hE1 ?_;refine te 5 hE5 ?_;refine te 8 hE8 ?_;refine te 9 hE9 ?_;refine te 11 hE11 ?_;refine te 12 hE12 ?_;refine te 13 hE13 ?_;refine Zbj ?_;refine tl_env (d:=59) (v:=(vn (l2.length-1))) (congrArg (Value.int .i64) oqz) ?_;refine tv (o_loadN (vs:=[.int .i64 bq,.slice a50 (q.cells.length+p.cells.length) c50,.bool q.fresh]) a203 sz203 rfl hsqz (by exact Nat.le_refl 3) rfl) ?_;refine tl_env (d:=60) (v:= .agg ((⟨a50,c50,xq.vs++x.vs⟩:PtV).cells ⟨bq,q.cells++p.cells,q.fresh⟩).toArray) (by show Value.agg #[_,_,_]=Value.agg #[_,Value.slice a50 (q.cells++p.cells).length c50,_];rw [List.length_append]) ?_;refine tv (o_ixP (j:=l2.length-1) underlying198 sz203 rfl rfl oqz (nn_rs (xs:=ptsV xs2 l2) sq0z (λ _=>by rw [ptsV_len hxl2];omega))) ?_;refine tl_u rfl (o_stPN (ys:=ptsV (xs2.set (l2.length-1) ⟨a50,c50,xq.vs++x.vs⟩) (l2.set (l2.length-1) ⟨bq,q.cells++p.cells,q.fresh⟩)) sz203 rfl rfl rfl rfl (by decide) ctqz oqz (ptsV_splice hj1 hj2)) ?_;refine nq ?_;refine tc_exit ?_;refine q_then_e (q_block_x (q_then_n ?_));refine tc_reg ?_;refine Zb4 ?_;exact ⟨_,by omega,i+1,a2,c2,xs2.set (l2.length-1) ⟨a50,c50,xq.vs++x.vs⟩,l2.set (l2.length-1) ⟨bq,q.cells++p.cells,q.fresh⟩,Z*Sl 1 (.slice a50 (q.cells.length+p.cells.length) c50) (q.cells.length+p.cells.length) (xq.vs++x.vs),by omega,⟨by rw [List.length_set];exact hl2c,by rw [List.length_set];omega⟩,(by rw [←star_assoc];exact ps_set hp2.left ⟨by show (q.cells++p.cells).length<=c50;rw [List.length_append];omega,rs_sl,rw_app hqt.w.left hpt.w.left.left⟩),(by rw [hst,hj0]),rfl,(by rw [List.length_set];rfl),rfl,rfl,rfl,rfl,(by rw [List.length_set,←star_assoc];repeat (first|with_reducible exact dr_refl|apply dr_keep|apply dr_drop))⟩
      have hfit:fitP fill l2 p.cells.length=false:=(by rw [←hbb0];exact h);rw [stpT_no hfit] at hst
      refine Ze ?_;refine Zbq ?_;refine tv (o_loadN (vs:=x.cells p) a203 sz203 rfl hsqz (by exact Nat.le_refl 3) rfl) ?_;refine tl_x rfl (o_buildSliceK (k:=3) (l:=x.cells p) underlying198 sz203 z203 rfl rfl (by decide)) ?_;rintro _ _ ⟨b64,rfl,rfl⟩;refine tl_x rfl (o_apB underlying198 underlying198 sz203 by203 z203 rfl (by decide) (by decide) rfl rfl rfl ctqz rfl rfl oqz (show _=ptsV (xs2++[x]) (l2++[p]) by rw [ptsV_snoc hxl2])) ?_;rintro _ _ ⟨a65,c65,rfl,hc65,rfl⟩;refine Zep ?_;exact ⟨_,by omega,i+1,a65,c65,xs2++[x],l2++[p],Z,by omega,⟨by rw [List.length_append];exact hc65,by rw [List.length_append,List.length_singleton];omega⟩,ps_snoc hp2 hpt.left,hst.symm,rfl,(by rw [List.length_append];rfl),rfl,rfl,rfl,rfl,(by rw [List.length_append];repeat (first|with_reducible exact dr_refl|apply dr_keep|apply dr_drop))⟩
    obtain rfl:i=l.length:=by first|omega|(simp at h;omega)
    rw [List.take_length] at hp3
    refine Zhk ?_;refine q_sc_r ?_;exact ⟨.slice a2 l2.length c2,A*Sl 3 (.slice a2 l2.length c2) l2.length (ptsV xs2 l2)*Z,res1 rfl rfl,Dr.sat drqz,a2,c2,xs2,l2,Z,hp3.symm,rfl,⟨hp1.1,hp1.2,hp2⟩,rfl⟩
  intro hsc;refine Zs ?_;refine tc_fall hsc ?_;exact ⟨rfl,rfl,rfl,drqz⟩
end Go.Vl

namespace Go.Vl
open Go Go.Proofs Go.Proofs.Tryz
def carryT (n ba cell:Nat)(s:DevS)(lst:List (Nat×List (List Nat)))(l:List Prt)(T:WkT):Nat×Int×WkT:=
  if (takeP n l T).2.1=0 then
    (refP (takeP n l T).1,0,writeP ba cell s (takeP n l T).1 (takeP n l T).1.length (giveP ((takeP n l T).1.map (·.blk)) (lst.map (·.1)) (takeP n l T).2.2))
  else (0,(takeP n l T).2.1,(takeP n l T).2.2)
theorem takeP_neg {n b:Nat}{e:Int}{p:Prt}{l:List Prt}{T T2:WkT}(hb:p.blk= -1)(ht:takeS n T=(b,e,T2))(he:e≠0):takeP n (p::l) T=(p::l,e,T):=by
  unfold takeP;rw [if_pos hb,ht,if_neg he]
theorem takeP_pos {n b:Nat}{p:Prt}{l:List Prt}{T T2:WkT}(hb:p.blk= -1)(ht:takeS n T=(b,0,T2)):takeP n (p::l) T=(⟨((b:Nat):Int),p.cells,true⟩::(takeP n l T2).1,(takeP n l T2).2):=by
  conv=>lhs;unfold takeP
  rw [if_pos hb,ht,if_pos rfl]
theorem takeP_has {n:Nat}{p:Prt}{l:List Prt}{T:WkT}(hb:p.blk≠-1):takeP n (p::l) T=(p::(takeP n l T).1,(takeP n l T).2):=by
  conv=>lhs;unfold takeP
  rw [if_neg hb]
theorem takeP_nil {n:Nat}{T:WkT}:takeP n [] T=([],0,T):=by unfold takeP;rfl
def UmP (M:MS)(us:List Int):Prop:=∀b:Int,(M.get b).getD (.int .i64 0)= .int .i64 (if b∈us then 1 else 0)
theorem um_nil:UmP ⟨[],0⟩ []:=λ b=>by rw [MS.get_nil];rfl
theorem um_put {M:MS}{us:List Int}{b:Int}(h:UmP M us):UmP (M.put b (.int .i64 1)) (us++[b]):=λ c=>by
  rw [MS.get_put]
  by_cases e:b=c
  . rw [if_pos e,if_pos (by rw [e];simp)];rfl
  rw [if_neg e,h c]
  have:c∈us++[b]↔c∈us:=by
    rw [List.mem_append,List.mem_singleton]
    exact ⟨λ h9=>h9.elim id λ h8=>absurd h8.symm e,.inl⟩
  simp only [this]
theorem giveP_snoc {us:List Int}{b:Nat}:∀{l:List Nat} {T:WkT},giveP us (l++[b]) T=if ((b:Nat):Int)∈us then giveP us l T else (giveP us l T).give b
  |[],T=>by
    show giveP us [b] T=_
    unfold giveP;unfold giveP;split<;>rfl
  |a::l,T=>by
    show giveP us (a::(l++[b])) T=_
    conv=>lhs;unfold giveP
    rw [giveP_snoc]
    conv=>rhs;unfold giveP
theorem pts_set1 {xs:List PtV}{l:List Prt}{i j:Nat}{v:Value}{p:Prt}(h:i<l.length)(h2:i<xs.length)(hj:j<3)(he:(xs[i].cells l[i]).set j v=xs[i].cells p):(ptsV xs l).set (i*3+j) v=ptsV xs (l.set i p):=by
  rw [ptsV_set h h2 hj he,List.set_getElem_self]
theorem pts_blk {xs:List PtV}{l:List Prt}{i:Nat}{p:Prt}(h:i<l.length)(h2:i<xs.length)(hp:l[i]=p):(ptsV xs l)[i*3+0]? =some (.int .i64 p.blk):=by
  subst hp;exact (ptsV_get h h2 (by decide)).trans rfl
theorem ps_same {Z:SP}{cell i:Nat}{xs:List PtV}{l:List Prt}{p:Prt}(h:PsOk Z cell xs l)(hi:i<l.length)(hp:p.cells=l[i].cells):PsOk Z cell xs (l.set i p):=by
  refine ⟨by rw [List.length_set];exact h.len,λ j h1 h2=> ?_⟩;rw [List.length_set] at h1
  by_cases e:i=j
  . subst e;rw [List.getElem_set_self]
    have hk:=h.ok i h1 h2;exact ⟨by rw [hp];exact hk.c,hk.r,by rw [hp];exact hk.w⟩
  rw [List.getElem_set_ne e];exact h.ok j h1 h2
theorem set_take1 {l:List Prt}{i:Nat}{p:Prt}(h:i<l.length):(l.set i p).take (i+1)=l.take i++[p]:=by
  rw [List.take_succ_eq_append_getElem (by rw [List.length_set];exact h),List.getElem_set_self,List.take_set_of_le (Nat.le_refl _)]
theorem set_drop1 {l:List Prt}{i:Nat}{p:Prt}:(l.set i p).drop (i+1)=l.drop (i+1):=List.drop_set_of_lt (Nat.lt_succ_self i)
theorem wr1_used {ba cell k:Nat}{s:DevS}{l:List Prt}{T:WkT}:usedB (wr1 ba cell s l k T)=usedB T:=by
  unfold wr1
  split
  . rfl
  split<;>rfl
theorem nodup_take {l:List Nat}{i:Nat}(h:l.Nodup)(hi:i<l.length):l[i]∉l.take i:=λ hm=>by
  obtain ⟨j,hj,e⟩:=List.mem_iff_getElem.1 hm;rw [List.length_take] at hj
  rw [List.getElem_take] at e
  exact List.pairwise_iff_getElem.1 h j i oqz hi oqz e
attribute [local irreducible] crk crL crc Sl pt ro Dev imgS recS readS recsF rdW rdO rkT Parts rvl recordsS runsL adrF kcl xcl kys runA runsF layF ovF TxA adZ WkA comS conB rootV ptsV
theorem carry15_c {A R:SP}  {X:WkX}{Y:WkY}{T:WkT}{s:DevS}  (hok:WkOk X Y T (s.ls.length*64))(hb:WkB X s)(ho:s.off=false:=by assumption){a aw:Option Addr}{c cw cell:Nat}{xs ys:List PtV}{l:List Prt}{lst:List (Nat×List (List Nat))}(hA:A=R*WkA X Y s*Sl 3 (.slice a l.length c) l.length (ptsV xs l))(hcell:1<=cell/\ cell<=62)(hrw:Rs R aw (ptsV ys (asP lst)))(hys:ys.length=lst.length)(hps:PsOk R cell xs l)(hol:∀p∈l,OkP (fillT cell) p/\ (∀x∈p.cells,x.length=cell/\∀y∈x,y<256)/\ (p.blk≠-1->0<=p.blk/\ usedB T p.blk.toNat=true))(hwu:∀p∈lst,usedB T p.1=true)(hwd:(lst.map (·.1)).Nodup)(hll:l.length<=4194304)(hwl:lst.length<=4194304):
    Fn Tryz.prog 124 #[.pointer (some ⟨X.w,0,none⟩),.slice aw lst.length cw,.slice a l.length c,vn cell] A (λ r B=>∃rf e T2 Y2,carryT X.n X.ba cell s lst l T=(rf,e,T2)/\ r= .tuple #[.int .u32 ((rf:Nat):Int),.int .i64 e]/\ WkOk X Y2 T2 (s.ls.length*64)/\ B=R*WkA X Y2 s):=by
  refine fn_enterW func124 rfl ntmps124 (by simp) ?_;subst hA;obtain ⟨hb1,hb2,hb3⟩:=id hb;have hfp:=fill_pos hcell;refine sr ?_;refine Zm ?_;refine sr ?_;refine tl_x rfl (o_makeMap (ik:= .i64) underlying290) ?_;rintro _ _ ⟨b19,rfl,rfl⟩;refine Za ?_;refine Zgx ?_;refine tc_loop (λ kk ρ BB=>∃ (i:Nat) (Yi:WkY) (Ti:WkT) (li:List Prt) (Mi:MS),(i<=l.length)/\ (WkOk X Yi Ti (s.ls.length*64))/\ (li.length=l.length/\ li.drop i=l.drop i)/\ (takeP X.n l T=(li.take i++(takeP X.n (l.drop i) Ti).1,(takeP X.n (l.drop i) Ti).2))/\ (UmP Mi ((li.take i).map (·.blk)))/\ (PsOk R cell xs li)/\ kk=l.length-i/\ ρ 22=(vn i)/\ ρ 0= .pointer (some ⟨X.w,0,none⟩)/\ ρ 1= .slice aw lst.length cw/\ ρ 2= .slice a l.length c/\ ρ 3=(vn cell)/\ ρ 10= .map (some b19)/\ ρ 21=(vn l.length)/\ Dr BB (R*WkA X Yi s*Sl 3 (.slice a l.length c) l.length (ptsV xs li)*pt b19 (mpo .i64 Mi))) (m:=l.length-(0)) ?_ ?_
  . exact ⟨0,Y,T,l,⟨[],0⟩,Nat.zero_le _,hok,⟨rfl,rfl⟩,by rw [List.take_zero,List.drop_zero,List.nil_append],by rw [List.take_zero];exact um_nil,hps,rfl,rfl,rfl,rfl,rfl,rfl,rfl,rfl,drqz⟩
  intro k ρ B hI;obtain ⟨i,Yi,Ti,li,Mi,hp0,hp1,hp2,hp3,hp4,hp5,hkk1,hE22,hE0,hE1,hE2,hE3,hE10,hE21,hBA⟩:=hI;refine tc_pre hBA.sat ?_;clear hBA;refine te 22 hE22 ?_;refine te 0 hE0 ?_;refine te 1 hE1 ?_;refine te 2 hE2 ?_;refine te 3 hE3 ?_;refine te 10 hE10 ?_;refine te 21 hE21 ?_;refine Zcg ?_;refine tc_cond rfl (λ h=> ?_) (λ h=> ?_)
  . have hi:i<l.length:=(by first|omega|(simp at h;omega));obtain ⟨hlx2,hld⟩:=hp2;have hi2:i<li.length:=(by omega);have hlx:=hp5.len;have hi3:i<xs.length:=(by omega);obtain ⟨p,hp⟩:∃p,l[i]=p:=⟨_,rfl⟩;have hdr:l.drop i=p::l.drop (i+1):=(by rw [List.drop_eq_getElem_cons hi,hp]);have hdl:=hld;rw [hdr,List.drop_eq_getElem_cons hi2] at hdl
    obtain ⟨hli,hdn⟩:=List.cons.inj hdl;have hself:li.set i p=li:=(by rw [←hli,List.set_getElem_self]);refine Ze9 ?_;refine Zds ?_;refine tlm ?_;refine tv (o_ixP (j:=i) underlying198 sz203 rfl rfl hi (nn_rs (xs:=ptsV xs li) sq0z (λ _=>by rw [ptsV_len hlx];omega))) ?_;refine tv (o_faP (m:=0) (o:=0) underlying203 rfl rfl sz3 rfl (nn_rs (xs:=ptsV xs li) sq0z (λ _=>by rw [ptsV_len hlx];omega))) ?_;refine tv (o_ldP (xs:=ptsV xs li) p3 rfl sq0z (pts_blk hi2 hi3 hli)) ?_;refine Zcr ?_;refine tc_cut (λ ρ BB=>∃ (Yj:WkY) (Tj:WkT) (p2:Prt),(WkOk X Yj Tj (s.ls.length*64))/\ (p2.cells=p.cells)/\ (takeP X.n (p::l.drop (i+1)) Ti=(p2::(takeP X.n (l.drop (i+1)) Tj).1,(takeP X.n (l.drop (i+1)) Tj).2))/\ ρ 0= .pointer (some ⟨X.w,0,none⟩)/\ ρ 1= .slice aw lst.length cw/\ ρ 2= .slice a l.length c/\ ρ 3=(vn cell)/\ ρ 10= .map (some b19)/\ ρ 11=(vn i)/\ ρ 21=(vn l.length)/\ ρ 22=(vn i)/\ Dr BB (R*WkA X Yj s*Sl 3 (.slice a l.length c) l.length (ptsV xs (li.set i p2))*pt b19 (mpo .i64 Mi))) ?_ ?_
    . skip
      refine tc_cond rfl (λ h=> ?_) (λ h=> ?_)
      . have hpb:p.blk= -1:=(by first|exact of_decide_eq_true h|simpa using h);refine Zb ?_;refine tl_c rfl (o_call bd103 rfl (Take13_c (X:=X) (Y:=Yi) (T:=Ti) (s:=s) (hok:=hp1) (hb:=hb))) ?_;rintro _ _ ⟨b33,e33,T33,Y33,ht33,rfl,hok33,rfl⟩;refine Zc3 ?_;refine Zbv ?_;refine tc_cond rfl (λ h=> ?_) (λ h=> ?_)
        . have he9:e33≠0:=(by first|exact of_decide_eq_true h|simpa using h);have hstp:=takeP_neg (l:=l.drop (i+1)) hpb ht33 he9;obtain ⟨_,rfl,rfl⟩:=takeS_no ht33 he9;refine Zb ?_;refine Zy ?_;refine q_then_r (q_then_r (q_block_r (q_then_r (q_then_r (q_block_r (q_then_r ?_))))));have hcr:carryT X.n X.ba cell s lst l T=(0,7,T33):=(by unfold carryT;rw [hp3,hdr,hstp];exact if_neg (show¬(7:Int)=0 by decide));exact ⟨.tuple #[.int .u32 ((0:Nat):Int),.int .i64 (7)],R*WkA X Y33 s,res2 rfl rfl rfl,Dr.sat drqz,0,7,T33,Y33,hcr,rfl,by assumption,rfl⟩
        obtain rfl:e33=0:=by first|(have h9:=of_decide_eq_false h;omega)|(simp at h;omega)
        have hstp:=takeP_pos (l:=l.drop (i+1)) hpb ht33;refine Ze ?_;refine Zb5 ?_;refine Zfb ?_;refine tv (o_ixP (j:=i) underlying198 sz203 rfl rfl hi (nn_rs sq0z (λ _=>by rw [ptsV_len (by first|exact hlx|(rw [List.length_set];exact hlx))];first|omega|(rw [List.length_set];omega)))) ?_;refine tv (o_faP (m:=0) (o:=0) underlying203 rfl rfl sz3 rfl (nn_rs sq0z (λ _=>by rw [ptsV_len (by first|exact hlx|(rw [List.length_set];exact hlx))];first|omega|(rw [List.length_set];omega)))) ?_;refine tl_u rfl (o_stP (ys:=ptsV xs (li.set i ⟨((b33:Nat):Int),p.cells,p.fresh⟩)) sz3 rfl rfl rfl ctqz oqz (pts_set1 (j:=0) hi2 hi3 (by decide) (by rw [hli];rfl))) ?_;refine tv (o_ixP (j:=i) underlying198 sz203 rfl rfl hi (nn_rs sq0z (λ _=>by rw [ptsV_len (by first|exact hlx|(rw [List.length_set];exact hlx))];first|omega|(rw [List.length_set];omega)))) ?_;refine tv (o_faP (m:=0) (o:=2) underlying203 rfl rfl sz4 rfl (nn_rs sq0z (λ _=>by rw [ptsV_len (by first|exact hlx|(rw [List.length_set];exact hlx))];first|omega|(rw [List.length_set];omega)))) ?_;refine tl_u rfl (o_stP (ys:=ptsV xs (li.set i ⟨((b33:Nat):Int),p.cells,true⟩)) sz4 rfl rfl rfl ctqz oqz ((pts_set1 (j:=2) (p:=⟨((b33:Nat):Int),p.cells,true⟩) (by rw [List.length_set];exact hi2) hi3 (by decide) (by rw [List.getElem_set_self];rfl)).trans (by rw [List.set_set]))) ?_;refine tl_nil ?_;exact ⟨Y33,T33,⟨((b33:Nat):Int),p.cells,true⟩,by first|exact hok33|exact hp1,rfl,hstp,rfl,rfl,rfl,rfl,rfl,rfl,rfl,rfl,by first|(rw [hself];exact dr_refl)|exact dr_refl⟩
      have hpb:p.blk≠-1:=(by first|exact of_decide_eq_false h|simpa using h);have hstp:=takeP_has (n:=X.n) (l:=l.drop (i+1)) (T:=Ti) hpb;have hpc:p.cells=p.cells:=rfl;refine tc_skip ?_;exact ⟨Yi,Ti,p,by first|exact hok33|exact hp1,rfl,hstp,rfl,rfl,rfl,rfl,rfl,rfl,rfl,rfl,by first|(rw [hself];exact dr_refl)|exact dr_refl⟩
    intro ρ B hI;obtain ⟨Yj,Tj,p2,hj0,hj1,hj2,hE0,hE1,hE2,hE3,hE10,hE11,hE21,hE22,hBA⟩:=hI;refine q_then_n ?_;refine tc_pre hBA.sat ?_;clear hBA;refine te 0 hE0 ?_;refine te 1 hE1 ?_;refine te 2 hE2 ?_;refine te 3 hE3 ?_;refine te 10 hE10 ?_;refine te 11 hE11 ?_;refine te 21 hE21 ?_;refine te 22 hE22 ?_;refine Zb5 ?_;refine tlm ?_;refine tv (o_ixP (j:=i) underlying198 sz203 rfl rfl hi (nn_rs sq0z (λ _=>by rw [ptsV_len (by first|exact hlx|(rw [List.length_set];exact hlx))];first|omega|(rw [List.length_set];omega)))) ?_;refine tv (o_faP (m:=0) (o:=0) underlying203 rfl rfl sz3 rfl (nn_rs sq0z (λ _=>by rw [ptsV_len (by first|exact hlx|(rw [List.length_set];exact hlx))];first|omega|(rw [List.length_set];omega)))) ?_;refine tv (o_ldP (xs:=ptsV xs (li.set i p2)) (v:= .int .i64 p2.blk) p3 rfl sq0z (pts_blk (by rw [List.length_set];exact hi2) hi3 (by rw [List.getElem_set_self]))) ?_;refine tl_u rfl (o_mapUpdate (ik:= .i64) (M:=Mi) (v:= .int .i64 1) underlying290 underlying3 rfl upqz rfl rfl rfl) ?_;refine tl_nil ?_;refine Zc6 ?_;exact ⟨_,by omega,i+1,Yj,Tj,li.set i p2,Mi.put p2.blk (.int .i64 1),by omega,hj0,⟨by rw [List.length_set];exact hlx2,by rw [set_drop1];exact hdn⟩,by rw [hp3,hdr,hj2,set_take1 hi2,List.append_assoc];rfl,by rw [set_take1 hi2,List.map_append];exact um_put hp4,ps_same hp5 hi2 (by rw [hj1,hli]),rfl,rfl,rfl,rfl,rfl,rfl,rfl,rfl,drqz⟩
  obtain rfl:i=l.length:=by first|omega|(simp at h;omega)
  obtain ⟨hlx2,hld⟩:=hp2;rw [List.drop_length,takeP_nil] at hp3
  rw [List.take_of_length_le oqz] at hp3 hp4
  replace hp3:takeP X.n l T=(li,0,Ti):=by rw [hp3,List.append_nil]
  have htk:=takeP_ok (λ b hb=>hok.dj b hb) (λ p hp=>(hol p hp).2.2) hp3;obtain ⟨us,hus⟩:∃us,li.map (·.blk)=us:=⟨_,rfl⟩;obtain ⟨LW,hLW⟩:∃LW,lst.map (·.1)=LW:=⟨_,rfl⟩;have hLn:LW.length=lst.length:=(by rw [←hLW,List.length_map]);rw [hus] at hp4
  rw [hLW] at hwd
  have hwu2:∀b∈LW,usedB Ti b=true:=λ b hb=>by rw [←hLW] at hb;obtain ⟨q,hq,rfl⟩:=List.mem_map.1 hb;rw [htk.us,hwu q hq];rfl
  have hlx:=hp5.len;have hdj:DjT Ti:=htk.dj;refine Zk ?_;refine Zgx ?_;refine tc_loop (λ kk ρ BB=>∃ (j:Nat) (Yg:WkY),(j<=lst.length)/\ (WkOk X Yg (giveP us (LW.take j) Ti) (s.ls.length*64))/\ kk=lst.length-j/\ ρ 57=(vn j)/\ ρ 0= .pointer (some ⟨X.w,0,none⟩)/\ ρ 2= .slice a l.length c/\ ρ 3=(vn cell)/\ ρ 10= .map (some b19)/\ ρ 55= .slice aw lst.length cw/\ ρ 56=(vn lst.length)/\ Dr BB (R*WkA X Yg s*Sl 3 (.slice a l.length c) l.length (ptsV xs li)*pt b19 (mpo .i64 Mi))) (m:=lst.length-(0)) ?_ ?_
  . exact ⟨0,Yi,Nat.zero_le _,by rw [List.take_zero];exact hp1,rfl,rfl,rfl,rfl,rfl,rfl,rfl,rfl,drqz⟩
  intro k ρ B hI;obtain ⟨j,Yg,hq0,hq1,hkk2,hE57,hE0,hE2,hE3,hE10,hE55,hE56,hBA⟩:=hI;refine tc_pre hBA.sat ?_;clear hBA;refine te 57 hE57 ?_;refine te 0 hE0 ?_;refine te 2 hE2 ?_;refine te 3 hE3 ?_;refine te 10 hE10 ?_;refine te 55 hE55 ?_;refine te 56 hE56 ?_;refine Zcg ?_;refine tc_cond rfl (λ h=> ?_) (λ h=> ?_)
  . have hj:j<lst.length:=(by first|omega|(simp at h;omega));have hj2:j<(asP lst).length:=(by rw [asP_n];exact hj);have hj3:j<ys.length:=(by omega);obtain ⟨w,hw⟩:∃w,LW[j]'oqz=w:=⟨_,rfl⟩;have hjL:j<LW.length:=(by omega);have hwm:w∈LW:=hw▸List.getElem_mem hjL
    have hwn:w∉LW.take j:=hw▸nodup_take hwd hjL
    have hgv:=giveP_ok (us:=us) (l:=LW.take j) hdj;have hwus:usedB (giveP us (LW.take j) Ti) w=true:=(by rw [hgv.us,hwu2 w hwm,decide_eq_false hwn];rfl);have hstp:=giveP_snoc (us:=us) (b:=w) (l:=LW.take j) (T:=Ti);rw [show LW.take j++[w]=LW.take (j+1) by rw [List.take_succ_eq_append_getElem hjL,hw]] at hstp
    have hwa:(asP lst)[j].blk=((w:Nat):Int):=(by rw [asP_at hj,←hw];subst hLW;rw [List.getElem_map]);refine Zd5 ?_;refine tv (o_ixP (j:=j) underlying198 sz203 rfl rfl hj (nn_rs (xs:=ptsV ys (asP lst)) (by repeat (first|exact hrw|apply Rs.left)) (λ _=>by rw [ptsV_len (by rw [hys,asP_n])];omega))) ?_;refine tv (o_ldPN (vs:=ys[j].cells (asP lst)[j]) a203 sz203 rfl (by repeat (first|exact hrw|apply Rs.left)) (ptsV_at hj2 hj3) rfl (by decide)) ?_;refine tl_x rfl (o_alloc (l:=[.int .i64 0,.slice none 0 0,.bool false]) z203 rfl) ?_;rintro _ _ ⟨b15,rfl,rfl⟩;refine tl_u rfl (o_stUN (l':=ys[j].cells (asP lst)[j]) rfl upqz sz203 rfl rfl rfl (by exact Nat.le_refl 3) rfl) ?_;refine nq ?_;refine Zb ?_;refine Zbr ?_;refine tl_env (d:=63) (v:=(vn w)) (by show Value.int .i64 (asP lst)[j].blk=_;rw [hwa]) ?_;refine tv (o_lookup (ik:= .i64) (M:=Mi) underlying290 underlying3 z3 rfl rfl hsqz) ?_;refine tl_env (d:=64) (v:= .int .i64 (if ((w:Nat):Int)∈us then 1 else 0)) (hp4 _) ?_;refine Zcr ?_;refine tc_cut (λ ρ BB=>∃ (Yh:WkY),(WkOk X Yh (giveP us (LW.take (j+1)) Ti) (s.ls.length*64))/\ ρ 0= .pointer (some ⟨X.w,0,none⟩)/\ ρ 2= .slice a l.length c/\ ρ 3=(vn cell)/\ ρ 10= .map (some b19)/\ ρ 55= .slice aw lst.length cw/\ ρ 56=(vn lst.length)/\ ρ 57=(vn j)/\ Dr BB (R*WkA X Yh s*Sl 3 (.slice a l.length c) l.length (ptsV xs li)*pt b19 (mpo .i64 Mi))) ?_ ?_
    . skip
      refine tc_cond rfl (λ h=> ?_) (λ h=> ?_)
      . have hnu:¬((w:Nat):Int)∈us:=λ h9=>by rw [if_pos h9] at h;simp at h
        rw [if_neg hnu] at hstp
        refine Zb ?_;refine Zbr ?_;refine tl_env (d:=68) (v:=(vn w)) (by show Value.int .i64 (asP lst)[j].blk=_;rw [hwa]) ?_;refine tl_c rfl (o_call bd105 rfl (Give13_ok (X:=X) (Y:=Yg) (T:=giveP us (LW.take j) Ti) (s:=s) (b:=w) (hok:=hq1) (hb:=hb) (hu:=hwus))) ?_;rintro _ _ ⟨Y69,rfl,hok69,rfl⟩;refine Zha ?_;intro h;refine tc_skip ?_;exact ⟨Y69,by rw [hstp];first|exact hok69|exact hq1,rfl,rfl,rfl,rfl,rfl,rfl,rfl,drqz⟩
      have hnu:((w:Nat):Int)∈us:=Classical.byContradiction λ h9=>by rw [if_neg h9] at h;simp at h
      rw [if_pos hnu] at hstp
      refine tc_skip ?_;exact ⟨Yg,by rw [hstp];first|exact hok69|exact hq1,rfl,rfl,rfl,rfl,rfl,rfl,rfl,drqz⟩
    intro ρ B hI;obtain ⟨Yh,hg0,hE0,hE2,hE3,hE10,hE55,hE56,hE57,hBA⟩:=hI;refine q_block_n (q_then_n ?_);refine tc_pre hBA.sat ?_;clear hBA;refine te 0 hE0 ?_;refine te 2 hE2 ?_;refine te 3 hE3 ?_;refine te 10 hE10 ?_;refine te 55 hE55 ?_;refine te 56 hE56 ?_;refine te 57 hE57 ?_;refine tc_reg ?_;refine Zb4 ?_;exact ⟨_,by omega,j+1,Yh,by omega,hg0,rfl,rfl,rfl,rfl,rfl,rfl,rfl,rfl,drqz⟩
  obtain rfl:j=lst.length:=by first|omega|(simp at h;omega)
  rw [List.take_of_length_le oqz] at hq1
  have hgv:=giveP_ok (us:=us) (l:=LW) hdj;obtain ⟨Tg,hTg⟩:∃Tg,giveP us LW Ti=Tg:=⟨_,rfl⟩;rw [hTg] at hgv hq1
  have hgu:∀p∈li,usedB Tg p.blk.toNat=true:=λ p hp=>by obtain ⟨g1,g2⟩:=htk.at_ p hp;have g3:((p.blk.toNat:Nat):Int)∈us:=hus▸List.mem_map.2 ⟨p,hp,by omega⟩;rw [hgv.us,g2,decide_eq_true g3];simp
  refine Zk ?_;refine Zgx ?_;refine tc_loop (λ kk ρ BB=>∃ (v:Nat) (Yw:WkY) (Tw:WkT),(v<=l.length)/\ (WkOk X Yw Tw (s.ls.length*64))/\ (writeP X.ba cell s li li.length Tg=writeP X.ba cell s li (li.length-v) Tw)/\ (∀p∈li,usedB Tw p.blk.toNat=true)/\ kk=l.length-v/\ ρ 76=(vn v)/\ ρ 0= .pointer (some ⟨X.w,0,none⟩)/\ ρ 2= .slice a l.length c/\ ρ 3=(vn cell)/\ ρ 75=(vn l.length)/\ Dr BB (R*WkA X Yw s*Sl 3 (.slice a l.length c) l.length (ptsV xs li)*pt b19 (mpo .i64 Mi))) (m:=l.length-(0)) ?_ ?_
  . exact ⟨0,Yg,Tg,Nat.zero_le _,hq1,by rw [Nat.sub_zero],hgu,rfl,rfl,rfl,rfl,rfl,rfl,drqz⟩
  intro k ρ B hI;obtain ⟨v,Yw,Tw,hr0,hr1,hr2,hr3,hkk3,hE76,hE0,hE2,hE3,hE75,hBA⟩:=hI;refine tc_pre hBA.sat ?_;clear hBA;refine te 76 hE76 ?_;refine te 0 hE0 ?_;refine te 2 hE2 ?_;refine te 3 hE3 ?_;refine te 75 hE75 ?_;refine Zcg ?_;refine tc_cond rfl (λ h=> ?_) (λ h=> ?_)
  . have hv:v<l.length:=(by first|omega|(simp at h;omega));have hv2:v<li.length:=(by omega);have hvm:=List.getElem_mem hv2;obtain ⟨q9,hq9,hqe⟩:=mem_cells htk.len hvm;obtain ⟨ho1,ho2,_⟩:=hol q9 hq9;rw [hqe] at ho2
    have ho3:=ho1.2;rw [hqe] at ho3
    have hnx9:∀p,li[v+1]? =some p->0<=p.blk/\ p.blk.toNat<X.n:=λ p hp=>by have hpm:=List.mem_of_getElem? hp;exact ⟨(htk.at_ p hpm).1,used_n hr1 (hr3 p hpm)⟩
    refine Ze9 ?_;refine Zbu ?_;refine Zfb ?_;refine tl_c rfl (o_call bd160 rfl (write15_c (X:=X) (Y:=Yw) (T:=Tw) (s:=s) (iq:=v) (xs:=xs) (l:=li) (hok:=hr1) (hb:=hb) (hcell:=hcell) (hr:=(by repeat (first|with_reducible exact rs_sl|apply Rs.left))) (hps:=by exact hp5.left.left) (hk:=hv2) (hfi:=ho3) (hce:=ho2) (hbk:=⟨(htk.at_ _ hvm).1,hr3 _ hvm⟩) (hnx:=hnx9) (hll:=by omega) (hm:=hlx2))) ?_;rintro _ _ ⟨Y83,rfl,hok83,rfl⟩;refine Zha ?_;intro h;refine Zgh ?_;exact ⟨_,by omega,v+1,Y83,wr1 X.ba cell s li v Tw,by omega,hok83,by rw [hr2,show li.length-v=(li.length-(v+1))+1 by omega,writeP_step oqz,show li.length-(li.length-(v+1)+1)=v by omega],(λ p hp=>(by rw [wr1_used];exact hr3 p hp)),rfl,rfl,rfl,rfl,rfl,rfl,drqz⟩
  obtain rfl:v=l.length:=by first|omega|(simp at h;omega)
  rw [show li.length-l.length=0 by omega] at hr2
  replace hr2:writeP X.ba cell s li li.length Tg=Tw:=hr2
  have hcr0:carryT X.n X.ba cell s lst l T=(refP li,0,Tw):=(by unfold carryT;rw [hp3,if_pos rfl];dsimp only;rw [hus,hLW,hTg,hr2]);refine Zk ?_;refine Zch ?_;refine Zcr ?_;refine tc_cond rfl (λ h=> ?_) (λ h=> ?_)
  . have hl0:l.length=0:=(by have h9:=h;simp at h9;rw [h9];rfl);obtain rfl:li=[]:=List.eq_nil_of_length_eq_zero oqz;refine Zfa ?_;have hcr:carryT X.n X.ba cell s lst l T=(0,0,Tw):=hcr0;exact ⟨.tuple #[.int .u32 ((0:Nat):Int),.int .i64 (0)],R*WkA X Yw s,res2 rfl rfl rfl,Dr.sat drqz,0,0,Tw,Yw,hcr,rfl,by assumption,rfl⟩
  have hl0:¬l.length=0:=(by have h9:=h;simp at h9;intro h8;exact h9 (List.eq_nil_of_length_eq_zero h8));have h0:0<li.length:=(by omega);have h03:0<xs.length:=(by omega);obtain ⟨p0,hp0⟩:∃p0,li[0]=p0:=⟨_,rfl⟩;have hm0:p0∈li:=hp0▸List.getElem_mem h0
  obtain ⟨g1,g2⟩:=htk.at_ p0 hm0;obtain ⟨z0,hz0⟩:∃z0,p0.blk.toNat=z0:=⟨_,rfl⟩;have hzn:=used_n hr1 (hr3 p0 hm0);rw [hz0] at hzn
  have hrf:refP li=z0+1:=(by subst hp0;subst hz0;cases li with|nil=>simp at h0|cons p l=>rfl);have hzi:p0.blk=((z0:Nat):Int):=(by omega);refine Zb9 ?_;refine tv (o_ixP (j:=0) underlying198 sz203 rfl rfl oqz (nn_rs (xs:=ptsV xs li) sq0z (λ _=>by rw [ptsV_len hlx];omega))) ?_;refine tv (o_faP (m:=0) (o:=0) underlying203 rfl rfl sz3 rfl (nn_rs (xs:=ptsV xs li) sq0z (λ _=>by rw [ptsV_len hlx];omega))) ?_;refine tv (o_ldP (xs:=ptsV xs li) p3 rfl sq0z (pts_blk h0 h03 hp0)) ?_;refine tl_env (d:=94) (v:=(vn z0)) (by show Value.int .i64 p0.blk=_;rw [hzi]) ?_;refine tv (o_addI rfl rfl oqz) ?_;refine tl_env (d:=95) (v:=(vn (z0+1))) (by first|rfl|exact congrArg (Value.int .i64) oqz) ?_;refine tv (o_conv32 (a:=z0+1) underlying3 underlying53 rfl) ?_;refine tl_env (d:=96) (v:= .int .u32 ((z0+1:Nat):Int)) (congrArg (λ z:Nat=>Value.int .u32 (z:Int)) (Nat.mod_eq_of_lt oqz)) ?_;refine Zy ?_;have hcr:carryT X.n X.ba cell s lst l T=(z0+1,0,Tw):=(by rw [hcr0,hrf]);exact ⟨.tuple #[.int .u32 ((z0+1:Nat):Int),.int .i64 (0)],R*WkA X Yw s,res2 rfl rfl rfl,Dr.sat drqz,z0+1,0,Tw,Yw,hcr,rfl,by assumption,rfl⟩
end Go.Vl

namespace Go.Vl
open Go Go.Proofs Go.Proofs.Tryz
def insR (n ba cell:Nat)(s:DevS)(ref:Nat)(ix:Int)(rows:List (List Nat))(T:WkT):Nat×Int×WkT:=
  if (partsR (usedB T) (conB T s ba) n cell ref).2≠0 then (0,(partsR (usedB T) (conB T s ba) n cell ref).2,T)
  else if ix<0∨((flatP (asP (partsR (usedB T) (conB T s ba) n cell ref).1)).length:Int)<ix then (0,6,T)
  else if rows.length=0 then (ref,0,T)
  else carryT n ba cell s (partsR (usedB T) (conB T s ba) n cell ref).1 (settleS (fillT cell) (insP (fillT cell) (asP (partsR (usedB T) (conB T s ba) n cell ref).1) ix.toNat rows)) T
section
variable {n ba cell ref:Nat} {s:DevS} {ix:Int} {rows:List (List Nat)} {T:WkT} {lst:List (Nat×List (List Nat))} {e:Int}
theorem insR_err (h:partsR (usedB T) (conB T s ba) n cell ref=(lst,e))(he:e≠0):insR n ba cell s ref ix rows T=(0,e,T):=by unfold insR;rw [h];exact if_pos he
theorem insR_rng (h:partsR (usedB T) (conB T s ba) n cell ref=(lst,0))(hi:ix<0∨((flatP (asP lst)).length:Int)<ix):insR n ba cell s ref ix rows T=(0,6,T):=by unfold insR;rw [h,if_neg (λ h9=>h9 rfl)];exact if_pos hi
theorem insR_nil (h:partsR (usedB T) (conB T s ba) n cell ref=(lst,0))(hi:¬(ix<0∨((flatP (asP lst)).length:Int)<ix))(h0:rows.length=0):insR n ba cell s ref ix rows T=(ref,0,T):=by unfold insR;rw [h,if_neg (λ h9=>h9 rfl),if_neg hi,if_pos h0]
theorem insR_go {i:Nat}(h:partsR (usedB T) (conB T s ba) n cell ref=(lst,0))(hi:i<=(flatP (asP lst)).length)(h0:rows.length≠0):insR n ba cell s ref ((i:Nat):Int) rows T=carryT n ba cell s lst (settleS (fillT cell) (insP (fillT cell) (asP lst) i rows)) T:=by
  unfold insR;rw [h,if_neg (λ h9=>h9 rfl),if_neg (by dsimp only;omega),if_neg h0];rfl
end
theorem place_t {l:List Prt}{i k n:Nat}(h:findR l i=(k,n,true)):placeT l i=(k,n):=by
  unfold findR at h;unfold placeT
  cases hf:findT l i with
  |none=>rw [hf] at h;simp at h
  |some x=>obtain ⟨k2,n2⟩:=x;rw [hf] at h;simp at h;rw [h.1,h.2];rfl
theorem place_f {l:List Prt}{i k n:Nat}(h:findR l i=(k,n,false)):placeT l i=(l.length-1,((l[l.length-1]?).map (·.cells.length)).getD 0):=by
  unfold findR at h;unfold placeT
  cases hf:findT l i with
  |none=>rfl
  |some x=>obtain ⟨k2,n2⟩:=x;rw [hf] at h;simp at h
theorem insP_at {fill:Nat}{was:List Prt}{i k n:Nat}{p:Prt}{ins:List (List Nat)}(h:placeT was i=(k,n))(hp:was[k]? =some p):insP fill was i ins=was.take k++chunkP fill (p.cells.length+ins.length) p.blk (p.cells.take n++ins++p.cells.drop n)++was.drop (k+1):=by
  unfold insP;rw [h];dsimp only;rw [hp]
theorem chunk_le {fill:Nat}:∀{k:Nat} {b:Int} {cs:List (List Nat)},1<=fill->(chunkP fill k b cs).length<=cs.length
  |0,_,_,_=>by simp [chunkP]
  |k+1,b,cs,hf=>by
    unfold chunkP
    split
    . simp
    have:=chunk_le (k:=k) (b:= -1) (cs:=cs.drop fill) hf;rw [List.length_drop] at this
    rw [List.length_cons];omega
theorem ptsV_take {xs:List PtV}{l:List Prt}(h:xs.length=l.length)(k:Nat):(ptsV xs l).take (k*3)=ptsV (xs.take k) (l.take k):=by
  have e:=ptsV_app (xs:=xs.take k) (ys:=xs.drop k) (l:=l.take k) (m:=l.drop k) (by rw [List.length_take,List.length_take,h]);rw [List.take_append_drop,List.take_append_drop] at e
  rcases Nat.le_total k l.length with h1|h1
  . rw [e,List.take_left' (by rw [ptsV_len (by rw [List.length_take,List.length_take,h]),List.length_take,Nat.min_eq_left h1,Nat.mul_comm])]
  rw [List.take_of_length_le (by rw [ptsV_len h];omega),List.take_of_length_le oqz,List.take_of_length_le h1]
theorem ptsV_drop {xs:List PtV}{l:List Prt}(h:xs.length=l.length){k:Nat}(hk:k<=l.length):(ptsV xs l).drop (k*3)=ptsV (xs.drop k) (l.drop k):=by
  have e:=ptsV_app (xs:=xs.take k) (ys:=xs.drop k) (l:=l.take k) (m:=l.drop k) (by rw [List.length_take,List.length_take,h]);rw [List.take_append_drop,List.take_append_drop] at e
  rw [e,List.drop_left' (by rw [ptsV_len (by rw [List.length_take,List.length_take,h]),List.length_take,Nat.min_eq_left hk,Nat.mul_comm])]
theorem ps_take {Z:SP}{cell k:Nat}{xs:List PtV}{l:List Prt}(h:PsOk Z cell xs l):PsOk Z cell (xs.take k) (l.take k):=⟨by rw [List.length_take,List.length_take,h.len],λ j h1 h2=>by
  rw [List.length_take] at h1 h2
  rw [List.getElem_take,List.getElem_take];exact h.ok j oqz oqz⟩
theorem ps_drop {Z:SP}{cell k:Nat}{xs:List PtV}{l:List Prt}(h:PsOk Z cell xs l):PsOk Z cell (xs.drop k) (l.drop k):=⟨by rw [List.length_drop,List.length_drop,h.len],λ j h1 h2=>by
  rw [List.length_drop] at h1 h2
  rw [List.getElem_drop,List.getElem_drop];exact h.ok (k+j) oqz oqz⟩
theorem ptsV_all:∀ (xs:List PtV) (l:List Prt),(ptsV xs l).all oneC=true
  |[],l=>by unfold ptsV;rfl
  |_::_,[]=>by unfold ptsV;rfl
  |x::xs,p::l=>by rw [ptsV_cons,List.all_append,ptsV_all xs l];rfl
theorem drop_minT {α:Type}{X:List α}{a:Nat}:X.drop (min a X.length)=X.drop a:=by
  rcases Nat.le_total a X.length with h|h
  . rw [Nat.min_eq_left h]
  rw [Nat.min_eq_right h,List.drop_of_length_le (Nat.le_refl _),List.drop_of_length_le h]
theorem cut03 {a:Option Addr}{c:Nat}:cutAddr a c 0 3=a:=by unfold cutAddr;cases a<;>simp [Addr.add]
theorem dr_mid {A Z X:SP}:Dr (A*Z*X) Z:=⟨A*X,by rw [star_assoc,star_comm Z X,←star_assoc,star_comm (A*X) Z]⟩
theorem chunk_go {fill k:Nat}{b:Int}{cs:List (List Nat)}(h:0<cs.length):chunkP fill (k+1) b cs=⟨b,cs.take fill,false⟩::chunkP fill k (-1) (cs.drop fill):=by
  conv=>lhs;unfold chunkP
  rw [if_neg oqz]
theorem rs_dropV {A:SP}{a:Option Addr}{n c:Nat}{vs:List Value}(h:Rs A a vs)(hc:vs.length<=c):Rs A (cutAddr a c n 1) (vs.drop n):=by
  have:=rs_cut (l:=n) (k:=1) (cap:=c) h oqz
  rwa [Nat.mul_one] at this
theorem settle_car {u:Nat->Bool}{cell:Nat}{lst:List (Nat×List (List Nat))}{plan:List Prt}(hrg:∀p∈lst,RowG u cell p)(hok:∀p∈plan,OkP (fillT cell) p)(hce:∀x∈flatP plan,x.length=cell/\∀y∈x,y<256)(hbl:(blksP plan).Sublist (blksP (asP lst))):
    ∀p∈settleS (fillT cell) plan,OkP (fillT cell) p/\ (∀x∈p.cells,x.length=cell/\∀y∈x,y<256)/\ (p.blk≠-1->0<=p.blk/\ u p.blk.toNat=true):=λ p hp=>by
  refine ⟨settle_ok plan [] (λ q hq=>(by cases hq)) hok p hp,λ x hx=>hce x ?_,λ hb=> ?_⟩
  . rw [←settle_flat_nil (fill:=fillT cell) (l:=plan)];exact flat_mem hp hx
  have h1:p.blk∈blksP (asP lst):=hbl.subset ((settle_blks plan []).subset (blk_mem hp hb));rw [asP_blks] at h1
  obtain ⟨x,hx,hxe⟩:=List.mem_map.1 h1;have hxe:((x.1:Nat):Int)=p.blk:=hxe;rw [←hxe]
  exact ⟨Int.natCast_nonneg _,by rw [Int.toNat_natCast];exact (hrg x hx).u⟩
attribute [local irreducible] crk crL crc Sl pt ro Dev imgS recS readS recsF rdW rdO rkT Parts rvl recordsS runsL adrF kcl xcl kys runA runsF layF ovF TxA adZ WkA comS conB rootV ptsV
theorem Zhc {p r:Prop}(k:r)(h:Kq r->p:=by intro k;refine tm 0 rfl kqz rfl (o_fieldAddr (o:=1) underlying203 rfl rfl sz35 rfl) ?_;refine tm 1 rfl kqz rfl (o_load p35 rfl hsqz rfl) ?_;exact k.o):p:=h ⟨k⟩
theorem Insert15_c {A R:SP}{C:SP->SP}{X:WkX}{Y:WkY}{T:WkT}{s:DevS}(hc:Ct A (WkA X Y s) R C:=by exact cbqz)(hok:WkOk X Y T (s.ls.length*64))(hb:WkB X s)(ho:s.off=false:=by assumption){ref cell:Nat}(hr1:ref<4294967296)(hcell:1<=cell/\ cell<=62){ix:Int}{rows:List (List Nat)}{rv:List Value}{ar:Option Addr}{cr:Nat}(hix: -9223372036854775808<=ix/\ ix<=9223372036854775807)(hrr:Rs A ar rv)(hrw:RwOk A cell rv rows)(hrc:∀x∈rows,x.length=cell/\∀y∈x,y<256)(hrn:rows.length<=65536):
    Fn Tryz.prog 28 #[.pointer (some ⟨X.w,0,none⟩),.int .u32 ((ref:Nat):Int),vn cell,.int .i64 ix,.slice ar rows.length cr] A (λ r B=>∃rf e T2 Y2,insR X.n X.ba cell s ref ix rows T=(rf,e,T2)/\ r= .tuple #[.int .u32 ((rf:Nat):Int),.int .i64 e]/\ WkOk X Y2 T2 (s.ls.length*64)/\ B=C (WkA X Y2 s)):=by
  refine fn_enterW func28 rfl ntmps28 (by simp) ?_;obtain ⟨hb1,hb2,hb3⟩:=id hb;have hfp:=fill_pos hcell;refine tc_have (λ _ _ h=>txa_wf (wka_txa hc) _ _ h) λ hwf=> ?_
  obtain ⟨rfl,hC⟩:=hc;refine Zg5 ?_;refine Zv ?_;refine tl_c rfl (o_call bd120 rfl (parts15_c (X:=X) (Y:=Y) (T:=T) (s:=s) (hok:=hok) (hb:=hb) (hr1:=hr1) (hcell:=hcell))) ?_;rintro _ _ ⟨l32,e32,a32,c32,xs32,Z32,hp32,rfl,hq32,rfl⟩;obtain ⟨⟨hlc,hln⟩,hrs,hps⟩:=hq32;have hrg:=partsR_rows hok hb hwf hp32;have hnd:=partsR_nodup hp32;have hrf:=rowG_flat hrg;have hfm:=flat_most hrg;have hxl:=hps.len;rw [asP_n] at hxl
  refine Zc3 ?_;refine Zbv ?_;refine tc_cond rfl (λ h=> ?_) (λ h=> ?_)
  . have he9:e32≠0:=(by first|exact of_decide_eq_true h|simpa using h);refine Zg7 ?_;have hir:insR X.n X.ba cell s ref ix rows T=(0,e32,T):=insR_err hp32 he9;exact ⟨.tuple #[.int .u32 ((0:Nat):Int),.int .i64 (e32)],C (WkA X Y s),res2 rfl rfl rfl,(λ g w h=>by rw [hC];exact Dr.sat (A':=R*WkA X Y s) drqz g w h),0,e32,T,Y,hir,rfl,by assumption,rfl⟩
  obtain rfl:e32=0:=by first|(have h9:=of_decide_eq_false h;omega)|(simp at h;omega)
  refine Ze ?_;refine Zdd ?_;refine Zfk ?_;refine tc_pre (A':=R*WkA X Y s*Z32*Sl 1 (.slice none 0 0) 0 []*Sl 1 (.slice none 0 0) 0 []) (λ _ _ h=>sl_nil (sl_nil h)) ?_;refine tc_loop (λ kk ρ BB=>∃ (j:Nat) (a2:Option Addr) (c2:Nat) (vs:List Value) (Z2:SP),(j<=rows.length/\ j<=c2)/\ (RwOk Z2 cell vs (rows.take j))/\ kk=rows.length-j/\ ρ 14= .slice a2 j c2/\ ρ 40=(vn j)/\ ρ 0= .pointer (some ⟨X.w,0,none⟩)/\ ρ 1= .int .u32 ((ref:Nat):Int)/\ ρ 2=(vn cell)/\ ρ 3= .int .i64 ix/\ ρ 12= .slice a32 l32.length c32/\ ρ 38= .slice ar rows.length cr/\ ρ 39=(vn rows.length)/\ Dr BB (R*WkA X Y s*Z32*Sl 1 (.slice a2 j c2) j vs*Z2)) (m:=rows.length-(0)) ?_ ?_
  . exact ⟨0,none,0,([]:List Value),Sl 1 (.slice none 0 0) 0 [],⟨Nat.zero_le _,Nat.zero_le _⟩,rw_nil _ _,rfl,rfl,rfl,rfl,rfl,rfl,rfl,rfl,rfl,rfl,by exact dr_refl⟩
  intro k ρ B hI;obtain ⟨j,a2,c2,vs,Z2,hp0,hp1,hkk1,hE14,hE40,hE0,hE1,hE2,hE3,hE12,hE38,hE39,hBA⟩:=hI;refine tc_pre hBA.sat ?_;clear hBA;refine te 14 hE14 ?_;refine te 40 hE40 ?_;refine te 0 hE0 ?_;refine te 1 hE1 ?_;refine te 2 hE2 ?_;refine te 3 hE3 ?_;refine te 12 hE12 ?_;refine te 38 hE38 ?_;refine te 39 hE39 ?_;refine Zcg ?_;refine tc_cond rfl (λ h=> ?_) (λ h=> ?_)
  . obtain ⟨hp0,hjc⟩:=hp0;have hj:j<rows.length:=(by first|omega|(simp at h;omega));obtain ⟨ra,rc,hrv,hry⟩:=hrw.2 j hj;obtain ⟨y,hy⟩:∃y,rows[j]=y:=⟨_,rfl⟩;rw [hy] at hry
    have hyl:=(hrc y (hy▸List.getElem_mem hj)).1;have hrvl:=hrw.1;refine Zd5 ?_;refine tv (o_ixP1 (a:=ar) underlying35 sz67 rfl rfl oqz (nn_rs (xs:=rv) (by repeat (first|exact hrr|apply Rs.left)) (λ _=>by rw [hrvl];omega))) ?_;refine tv (o_ldP (a:=ar) (xs:=rv) p67 rfl (by repeat (first|exact hrr|apply Rs.left)) hrv) ?_;refine Zds ?_;refine tv (o_len underlying67 rfl) ?_;refine tlm ?_;refine Zz ?_;intro h;refine Ze ?_;refine Zb5 ?_;refine tl_c rfl (o_call bd121 rfl (Clone_c (xs:=y) (hr:=(by repeat (first|exact hry|apply Rs.left))) (hx:=hyl) (hn:=by omega) (h0:=by omega))) ?_;rintro _ _ ⟨a50,c50,rfl,hc50,rfl⟩;refine tl_x rfl (o_buildSlice1 underlying35 sz67 z67 wqz rfl) ?_;rintro _ _ ⟨b51,rfl,rfl⟩;refine tl_x rfl (o_apB underlying35 underlying35 sz67 by67 z67 rfl (by decide) (by decide) rfl rfl rfl ctqz rfl rfl oqz rfl) ?_;rintro _ _ ⟨a52,c52,rfl,hc52,rfl⟩;refine Zep ?_;exact ⟨_,by omega,j+1,_,_,vs++[.slice a50 cell c50],Z2*Sl 1 (.slice a50 cell c50) cell (bys y),⟨by omega,hc52⟩,by rw [List.take_succ_eq_append_getElem hj,hy];exact rw_app hp1.left (rw_one rs_sl),rfl,rfl,rfl,rfl,rfl,rfl,rfl,rfl,rfl,rfl,by rw [←star_assoc];repeat (first|with_reducible exact dr_refl|apply dr_keep|apply dr_drop)⟩
  obtain ⟨hp0,hjc⟩:=hp0;obtain rfl:j=rows.length:=by first|omega|(simp at h;omega)
  rw [List.take_length] at hp1
  have hvl:=hp1.1;refine Zk ?_;refine Zb1 ?_;refine tc_cut (λ ρ BB=>∃ (bb:Bool),(bb=decide (ix<0∨((flatP (asP l32)).length:Int)<ix))/\ ρ 61= .bool bb/\ ρ 0= .pointer (some ⟨X.w,0,none⟩)/\ ρ 1= .int .u32 ((ref:Nat):Int)/\ ρ 2=(vn cell)/\ ρ 3= .int .i64 ix/\ ρ 12= .slice a32 l32.length c32/\ ρ 14= .slice a2 rows.length c2/\ Dr BB (R*WkA X Y s*Z32*Sl 1 (.slice a2 rows.length c2) rows.length vs*Z2)) ?_ ?_
  . skip
    refine Zbq ?_;refine Zc0 ?_;refine tl_bool (d:=56) rfl (sbq ?_) (sbq ?_)
    . intro h;refine Zh7 ?_;exact ⟨_,by first|exact (decide_eq_true oqz).symm|exact (decide_eq_false oqz).symm|(rw [decide_eq_decide];omega),rfl,rfl,rfl,rfl,rfl,rfl,rfl,drqz⟩
    intro h;refine Zv ?_;refine tl_c rfl (o_call bd122 rfl (count15_c (xs:=xs32) (l:=asP l32) (hm:=asP_n _) (hl:=by rw [hxl,asP_n]) (hr:=(by repeat (first|exact hrs.right|apply Rs.left))) (hb:=by rw [asP_n];omega) (hf:=by omega))) ?_;rintro _ _ ⟨rfl,rfl⟩;refine Zg9 ?_;exact ⟨_,by first|exact (decide_eq_true oqz).symm|exact (decide_eq_false oqz).symm|(rw [decide_eq_decide];omega),rfl,rfl,rfl,rfl,rfl,rfl,rfl,drqz⟩
  intro ρ B hI;obtain ⟨bb,hbb0,hE61,hE0,hE1,hE2,hE3,hE12,hE14,hBA⟩:=hI;refine q_then_n ?_;refine tc_pre hBA.sat ?_;clear hBA;refine te 61 hE61 ?_;refine te 0 hE0 ?_;refine te 1 hE1 ?_;refine te 2 hE2 ?_;refine te 3 hE3 ?_;refine te 12 hE12 ?_;refine te 14 hE14 ?_;refine tc_cond rfl (λ h=> ?_) (λ h=> ?_)
  . have hbad:ix<0∨((flatP (asP l32)).length:Int)<ix:=(by rw [h] at hbb0;exact of_decide_eq_true hbb0.symm);refine Zfa ?_;have hir:insR X.n X.ba cell s ref ix rows T=(0,6,T):=insR_rng hp32 hbad;exact ⟨.tuple #[.int .u32 ((0:Nat):Int),.int .i64 (6)],C (WkA X Y s),res2 rfl rfl rfl,(λ g w h=>by rw [hC];exact Dr.sat (A':=R*WkA X Y s) drqz g w h),0,6,T,Y,hir,rfl,by assumption,rfl⟩
  have hgood:¬(ix<0∨((flatP (asP l32)).length:Int)<ix):=(by rw [h] at hbb0;exact of_decide_eq_false hbb0.symm);refine Zc4 ?_;refine tv (o_len underlying35 rfl) ?_;refine Zcr ?_;refine tc_cond rfl (λ h=> ?_) (λ h=> ?_)
  . have hr0:rows.length=0:=(by have h9:=h;simp at h9;rw [h9];rfl);refine Zg7 ?_;have hir:insR X.n X.ba cell s ref ix rows T=(ref,0,T):=insR_nil hp32 hgood hr0;exact ⟨.tuple #[.int .u32 ((ref:Nat):Int),.int .i64 (0)],C (WkA X Y s),res2 rfl rfl rfl,(λ g w h=>by rw [hC];exact Dr.sat (A':=R*WkA X Y s) drqz g w h),ref,0,T,Y,hir,rfl,by assumption,rfl⟩
  have hr0:rows.length≠0:=(by have h9:=h;simp at h9;intro h8;exact h9 (List.eq_nil_of_length_eq_zero h8));obtain ⟨iN,hiN⟩:=Int.eq_ofNat_of_zero_le (show 0<=ix by omega);subst hiN;have hiL:iN<=(flatP (asP l32)).length:=(by omega);have hgo:=insR_go hp32 hiL hr0;refine Ze ?_;refine Zs ?_;refine sr ?_;refine tv (o_bS (l:=[_,_,_]) (pv_cons wqz pv_nil) underlying203 z203 (pl203 underlying203) rfl) ?_;refine tl_x rfl (o_alloc (l:=[.int .i64 0,.slice none 0 0,.bool false]) z203 rfl) ?_;rintro _ _ ⟨b18,rfl,rfl⟩;refine tl_u rfl (o_stUN (l':=[.int .i64 (-1),.slice none 0 0,.bool false]) rfl upqz sz203 rfl rfl rfl (by exact Nat.le_refl 3) rfl) ?_;refine nq ?_;refine Zdr ?_;refine Za ?_;refine Zch ?_;refine Zd4 ?_;refine tc_cut (λ ρ BB=>∃ (a3:Option Addr) (c3:Nat) (pl:List Prt) (xp:List PtV) (p:Prt) (xz:PtV) (a4:Option Addr) (c4:Nat) (bh:List Prt) (xb:List PtV) (n9:Nat),(PsOk Z32 cell xp pl/\ pl.length<=c3/\ PsOk Z32 cell xb bh/\ Rs Z32 a4 (ptsV xb bh)/\ pl.length+bh.length<=l32.length)/\ (PtOk Z32 cell xz p/\ n9<=p.cells.length/\ p.cells.length<=248)/\ (insP (fillT cell) (asP l32) iN rows=pl++chunkP (fillT cell) (p.cells.length+rows.length) p.blk (p.cells.take n9++rows++p.cells.drop n9)++bh)/\ ρ 17= .slice a3 pl.length c3/\ ρ 19= .slice a4 bh.length c4/\ ρ 20=(vn n9)/\ ρ 0= .pointer (some ⟨X.w,0,none⟩)/\ ρ 2=(vn cell)/\ ρ 12= .slice a32 l32.length c32/\ ρ 14= .slice a2 rows.length c2/\ ρ 18=(pz b18)/\ Dr BB (R*WkA X Y s*Z32*Sl 1 (.slice a2 rows.length c2) rows.length vs*Z2*pt b18 (cl (xz.cells p) 203)*Sl 3 (.slice a3 pl.length c3) pl.length (ptsV xp pl))) ?_ ?_
  . skip
    refine tc_cond rfl (λ h=> ?_) (λ h=> ?_)
    . have hw0:0<l32.length:=(by first|omega|(simp at h;omega));have hw1:asP l32≠[]:=λ h9=>by have:=asP_n l32;rw [h9] at this;simp at this;omega
      refine Zbj ?_;refine tl_c rfl (o_call bd123 rfl (find15_c (xs:=xs32) (l:=asP l32) (i0:=iN) (hm:=asP_n _) (hl:=by rw [hxl,asP_n]) (hr:=(by repeat (first|exact hrs.right|apply Rs.left))) (hb:=by rw [asP_n];omega) (hi0:=by omega))) ?_;rintro _ _ ⟨k74,n74,b74,h74,rfl,rfl⟩;refine Zf6 ?_;refine Zbo ?_;refine Zh0 ?_;refine tc_cut (λ ρ BB=>∃ (k9:Nat) (n9:Nat),(placeT (asP l32) iN=(k9,n9))/\ ρ 21=(vn k9)/\ ρ 22=(vn n9)/\ ρ 0= .pointer (some ⟨X.w,0,none⟩)/\ ρ 2=(vn cell)/\ ρ 12= .slice a32 l32.length c32/\ ρ 14= .slice a2 rows.length c2/\ ρ 17= .slice none 0 0/\ ρ 18=(pz b18)/\ Dr BB (R*WkA X Y s*Z32*Sl 1 (.slice a2 rows.length c2) rows.length vs*Z2*pt b18 (cl [.int .i64 (-1),.slice none 0 0,.bool false] 203))) ?_ ?_
      . skip
        refine tc_cond rfl (λ h=> ?_) (λ h=> ?_)
        . have hfb:b74=false:=(by simpa using h);rw [hfb] at h74
          have hplc:=place_f h74;rw [asP_n,List.getElem?_eq_getElem (show l32.length-1<(asP l32).length by rw [asP_n];omega),Option.map_some,Option.getD_some] at hplc
          refine Zb ?_;refine tv (o_len underlying198 rfl) ?_;refine tv (o_subI rfl rfl oqz) ?_;refine tl_env (d:=82) (v:=(vn (l32.length-1))) (congrArg (Value.int .i64) oqz) ?_;refine Zhu ?_;refine tv (o_ixP (j:=l32.length-1) underlying198 sz203 rfl rfl oqz (nn_rs (xs:=ptsV xs32 (asP l32)) (by repeat (first|exact hrs.right|apply Rs.left)) (λ _=>by rw [ptsV_len hps.len,asP_n];omega))) ?_;refine tv (o_faP (m:=0) (o:=1) underlying203 rfl rfl sz35 rfl (nn_rs (xs:=ptsV xs32 (asP l32)) (by repeat (first|exact hrs.right|apply Rs.left)) (λ _=>by rw [ptsV_len hps.len,asP_n];omega))) ?_;refine tv (o_ldP (xs:=ptsV xs32 (asP l32)) p35 rfl (by repeat (first|exact hrs.right|apply Rs.left)) (pts_cellP (i:=l32.length-1) (by rw [asP_n];omega) oqz)) ?_;refine tv (o_len underlying35 rfl) ?_;refine Zbn ?_;exact ⟨l32.length-1,_,hplc,rfl,rfl,rfl,rfl,rfl,rfl,rfl,rfl,drqz⟩
        have hfb:b74=true:=(by simpa using h);rw [hfb] at h74
        have hplc:=place_t h74;refine tc_skip ?_;exact ⟨k74,n74,hplc,rfl,rfl,rfl,rfl,rfl,rfl,rfl,rfl,drqz⟩
      intro ρ B hI;obtain ⟨k9,n9,hj0,hE21,hE22,hE0,hE2,hE12,hE14,hE17,hE18,hBA⟩:=hI;refine q_then_n ?_;refine tc_pre hBA.sat ?_;clear hBA;refine te 21 hE21 ?_;refine te 22 hE22 ?_;refine te 0 hE0 ?_;refine te 2 hE2 ?_;refine te 12 hE12 ?_;refine te 14 hE14 ?_;refine te 17 hE17 ?_;refine te 18 hE18 ?_;refine tc_seq ?_;obtain ⟨p,hpk,hn9,_⟩:=place_ok hw1 hiL;rw [hj0] at hpk hn9
      dsimp only at hpk hn9
      obtain ⟨hk9,hpe⟩:=List.getElem?_eq_some_iff.1 hpk;have hk8:=hk9;rw [asP_n] at hk8
      have hk7:k9<xs32.length:=(by omega);have hpt:=hps.ok k9 hk9 hk7;obtain ⟨xz,hxz⟩:∃xz,xs32[k9]=xz:=⟨_,rfl⟩;rw [hpe,hxz] at hpt
      have hpat:((ptsV xs32 (asP l32)).drop (k9*3)).take 3=xz.cells p:=(by rw [ptsV_at hk9 hk7,hpe,hxz]);have hins:=insP_at (fill:=fillT cell) (ins:=rows) hj0 hpk;have hpm:p∈asP l32:=hpe▸List.getElem_mem hk9
      have hptl:((asP l32).take k9).length=k9:=(by rw [List.length_take,asP_n];omega);have hpcl:((asP l32).drop (k9+1)).length=l32.length-(k9+1):=(by rw [List.length_drop,asP_n]);have hvl3:=ptsV_len hps.len;rw [asP_n] at hvl3
      have hp248:p.cells.length<=248:=(by obtain ⟨q8,hq8,hqe⟩:=List.mem_map.1 hpm;have h9:=(hrg q8 hq8).hi;rw [←hqe];show q8.2.length<=248;omega);refine Zb5 ?_;refine tlm ?_;refine tv (o_slice (l:=0) (h:=k9) underlying198 sz203 rfl bnd_none (bnd_nat rfl) oqz oqz) ?_;refine tl_env (d:=92) (v:= .slice a32 k9 c32) (by show Value.slice (cutAddr a32 c32 0 3) (k9-0) (c32-0)=_;rw [cut03];rfl) ?_;refine tl_x rfl (o_apN (ys:=ptsV (xs32.take k9) ((asP l32).take k9)) underlying198 underlying198 sz203 by203 z203 rfl (by decide) (by decide) rfl rfl (by repeat (first|exact (by rw [←ptsV_take hps.len];exact (hrs.sub _).right)|apply Rs.left)) (by rw [ptsV_len (by rw [List.length_take,List.length_take,hps.len]),hptl,Nat.mul_comm]) (ptsV_all _ _) oqz) ?_;rintro _ _ ⟨a93,c93,rfl,hc93,rfl⟩;refine Za ?_;refine tc_regh (S:=R*WkA X Y s*Z32*Sl 1 (.slice a2 rows.length c2) rows.length vs*Z2) mo drqz ?_
      show TH _ _ _ _ _ 12 (Array.replicate 12 false) _ _
      refine Zc8 ?_;refine tm 2 rfl kqz rfl (o_ixP (j:=k9) underlying198 sz203 rfl rfl hk8 (nn_rs (xs:=ptsV xs32 (asP l32)) (by repeat (first|exact hrs.right|apply Rs.left)) (λ _=>by rw [hvl3];omega))) ?_;refine tm 3 rfl kqz rfl (o_ldPN (vs:=xz.cells p) a203 sz203 rfl (by repeat (first|exact hrs.right|apply Rs.left)) hpat rfl (by decide)) ?_;refine tm 4 rfl kqz rfl (o_move wqz) ?_;refine tm 5 rfl kqz rfl (o_move wqz) ?_;refine tm 6 rfl kqz rfl adqz ?_;refine th_env (d:=100) (v:=(vn (k9+1))) (by first|rfl|exact congrArg (Value.int .i64) oqz) ?_;refine tm 7 rfl kqz rfl (o_slice (l:=k9+1) (h:=l32.length) underlying198 sz203 rfl (bnd_nat rfl) bnd_none oqz oqz) ?_;refine tm 8 rfl kqz rfl (o_move wqz) ?_;refine th_one (i:=9) kqz ?_;refine oh_u rfl rfl rfl (o_stUN (l':=xz.cells p) rfl upqz sz203 rfl rfl rfl (by exact Nat.le_refl 3) rfl) drqz ?_;refine Zge ?_;refine th_done kqz ?_;exact ⟨a93,c93,(asP l32).take k9,xs32.take k9,p,xz,cutAddr a32 c32 (k9+1) 3,c32-(k9+1),(asP l32).drop (k9+1),xs32.drop (k9+1),n9,by first|exact ⟨ps_take hps,by rw [hptl];exact hc93,ps_drop hps,by rw [←ptsV_drop hps.len (by rw [asP_n];omega)];exact rs_cut hrs (by rw [hvl3];omega),by rw [hptl,hpcl];omega⟩|exact ⟨ps_nil _ _,Nat.zero_le _,ps_nil _ _,by rw [pts_nil2];exact rs_nil,Nat.zero_le _⟩,by first|exact ⟨hpt,hn9,hp248⟩|exact ⟨⟨Nat.zero_le _,rs_nil,rw_nil _ _⟩,Nat.zero_le _,by decide⟩,by first|exact hins|(unfold insP;simp [asP]),by first|(rw [hptl];rfl)|rfl,by first|(rw [hpcl];rfl)|rfl,rfl,rfl,rfl,rfl,rfl,rfl,by first|(rw [hptl];repeat (first|with_reducible exact dr_refl|apply dr_keep|apply dr_drop);done)|(rw [pts_nil2];exact dr_refl)⟩
    obtain rfl:l32=[]:=by have h9:=h;simp at h9;exact h9
    obtain rfl:iN=0:=by have h9:(flatP (asP [])).length=0:=rfl;omega
    refine tc_pre (A':=R*WkA X Y s*Z32*Sl 1 (.slice a2 rows.length c2) rows.length vs*Z2*pt b18 (cl [.int .i64 (-1),.slice none 0 0,.bool false] 203)*Sl 3 (.slice none 0 0) 0 []) (λ _ _ h=>sl_nil h) ?_;refine tc_skip ?_;exact ⟨none,0,[],[],⟨-1,[],false⟩,⟨none,0,[]⟩,none,0,[],[],0,by first|exact ⟨ps_take hps,by rw [hptl];exact hc93,ps_drop hps,by rw [←ptsV_drop hps.len (by rw [asP_n];omega)];exact rs_cut hrs (by rw [hvl3];omega),by rw [hptl,hpcl];omega⟩|exact ⟨ps_nil _ _,Nat.zero_le _,ps_nil _ _,by rw [pts_nil2];exact rs_nil,Nat.zero_le _⟩,by first|exact ⟨hpt,hn9,hp248⟩|exact ⟨⟨Nat.zero_le _,rs_nil,rw_nil _ _⟩,Nat.zero_le _,by decide⟩,by first|exact hins|(unfold insP;simp [asP]),by first|(rw [hptl];rfl)|rfl,by first|(rw [hpcl];rfl)|rfl,rfl,rfl,rfl,rfl,rfl,rfl,by first|(rw [hptl];repeat (first|with_reducible exact dr_refl|apply dr_keep|apply dr_drop);done)|(rw [pts_nil2];exact dr_refl)⟩
  intro ρ B hI;obtain ⟨a3,c3,pl,xp,p,xz,a4,c4,bh,xb,n9,hg0,hg1,hg2,hE17,hE19,hE20,hE0,hE2,hE12,hE14,hE18,hBA⟩:=hI;refine q_then_n ?_;refine tc_pre hBA.sat ?_;clear hBA;refine te 17 hE17 ?_;refine te 19 hE19 ?_;refine te 20 hE20 ?_;refine te 0 hE0 ?_;refine te 2 hE2 ?_;refine te 12 hE12 ?_;refine te 14 hE14 ?_;refine te 18 hE18 ?_;refine tc_seq ?_;obtain ⟨hpsx,hplc2,hpsb,hrsb,hplb⟩:=hg0;obtain ⟨hptz,hn9z,hpl248⟩:=hg1;have hzw:=hptz.w.1;have hzc:=hptz.c;have hPL:(insP (fillT cell) (asP l32) iN rows).length<=100000:=(by rw [hg2,List.length_append,List.length_append];have h9:=chunk_le (fill:=fillT cell) (k:=p.cells.length+rows.length) (b:=p.blk) (cs:=p.cells.take n9++rows++p.cells.drop n9) oqz;rw [List.length_append,List.length_append,List.length_take,List.length_drop] at h9;omega);refine tc_regh (S:=R*WkA X Y s*Z32*Z2*pt b18 (cl (xz.cells p) 203)*Sl 3 (.slice a3 pl.length c3) pl.length (ptsV xp pl)) mo drqz ?_
  show TH _ _ _ _ _ 13 (Array.replicate 13 false) _ _
  refine Zhc ?_;refine th_env (d:=104) (v:= .slice xz.a p.cells.length xz.c) (rfl) ?_;refine Zc9 ?_;refine tm 4 rfl kqz rfl (o_slice3n (h:=n9) (m:=n9) underlying35 sz67 rfl rfl rfl (Nat.le_refl _) oqz) ?_;refine tm 5 rfl kqz rfl (o_move wqz) ?_;refine tm 6 rfl kqz rfl (o_fieldAddr (o:=1) underlying203 rfl rfl sz35 rfl) ?_;refine tm 7 rfl kqz rfl (o_load p35 rfl hsqz rfl) ?_;refine th_env (d:=110) (v:= .slice xz.a p.cells.length xz.c) (rfl) ?_;refine tm 8 rfl kqz rfl (o_move wqz) ?_;refine tm 9 rfl kqz rfl (o_slice (l:=n9) (h:=p.cells.length) underlying35 sz67 rfl (bnd_nat rfl) bnd_none oqz oqz) ?_;refine th_one (i:=10) kqz ?_;refine oh_x rfl rfl rfl (o_apR (ys:=xz.vs.drop n9) underlying35 underlying35 sz67 by67 z67 rfl (by decide) (by decide) rfl rfl ctqz (by repeat (first|exact (rs_dropV hptz.r oqz).right|apply Rs.left)) (by rw [List.length_drop,hzw,Nat.mul_one]) (rw_one_all (rw_drop hptz.w)) oqz rfl) ?_;rintro _ _ ⟨a113,c113,rfl,hc113,rfl⟩;refine Zeq ?_;refine oh_x rfl rfl rfl (o_apQ (q:=n9) (xs:=xz.vs.take n9) (ys:=vs++xz.vs.drop n9) underlying35 underlying35 sz67 by67 z67 rfl (by decide) (by decide) rfl rfl (by repeat (first|exact (hptz.r.sub n9).right|apply Rs.left)) (by rw [List.length_take,hzw,Nat.mul_one];omega) sq0z (by rw [List.length_append,hvl,List.length_drop,hzw,Nat.mul_one]) oqz (by rw [List.all_append,rw_one_all hp1,rw_one_all (rw_drop hptz.w)];rfl) oqz rfl) ?_;rintro _ _ ⟨a114,c114,rfl,hc114,rfl⟩;refine ⟨by repeat (first|with_reducible exact dr_refl|apply dr_keep|apply dr_drop), ?_⟩;refine tm 12 rfl kqz rfl (o_assign wqz) ?_;refine Zbs ?_;refine Zb ?_;refine tl_c rfl (o_call bd34 rfl (Fill15_c (cell:=((cell:Nat):Int)) (hc:=⟨by omega,by omega⟩))) ?_;rintro _ _ ⟨rfl,rfl⟩;refine tl_env (d:=116) (v:=(vn (fillT cell))) (by show Value.int .i64 (if 1<=((cell:Nat):Int)/\ ((cell:Nat):Int)<=62 then ((fillT ((cell:Nat):Int).toNat:Nat):Int) else 0)=_;rw [if_pos oqz,Int.toNat_natCast]) ?_;refine Zeh ?_;refine sr ?_;refine Zbr ?_;refine tl_env (d:=118) (v:= .int .i64 p.blk) (rfl) ?_;refine Za ?_;refine tc_block ?_;obtain ⟨VC,hVC⟩:∃VC,xz.vs.take n9++(vs++xz.vs.drop n9)=VC:=⟨_,rfl⟩;obtain ⟨CS,hCS⟩:∃CS,p.cells.take n9++rows++p.cells.drop n9=CS:=⟨_,rfl⟩;have hCl:CS.length=n9+(rows.length+(p.cells.length-n9)):=(by rw [←hCS,List.length_append,List.length_append,List.length_take,List.length_drop];omega);rw [hVC]
  obtain ⟨Zc,hZc⟩:∃Zc,Z32*Z2*Sl 1 (.slice a114 (n9+(rows.length+(p.cells.length-n9))) c114) (n9+(rows.length+(p.cells.length-n9))) VC=Zc:=⟨_,rfl⟩;have hw9:RwOk Zc cell VC CS:=(by rw [←hVC,←hCS,←hZc,←List.append_assoc];exact rw_app (rw_app (rw_take hptz.w).left.left (hp1.right (Y:=Z32)).left) (rw_drop hptz.w).left.left);have hr9:Rs Zc a114 VC:=(by rw [←hZc];exact rs_sl);refine tc_pre (A':=R*WkA X Y s*Zc*Sl 3 (.slice a3 pl.length c3) pl.length (ptsV xp pl)) (λ _ _ h=>by rw [←hZc];exact (Dr.sat (A':=R*WkA X Y s*Z32*Z2*Sl 3 (.slice a3 pl.length c3) pl.length (ptsV xp pl)*Sl 1 (.slice a114 (n9+(rows.length+(p.cells.length-n9))) c114) (n9+(rows.length+(p.cells.length-n9))) VC) drqz _ _ h).perm (by ac_rfl)) ?_;refine tc_loop (λ kk ρ BB=>∃ (pl2:List Prt) (xp2:List PtV) (a5:Option Addr) (c5:Nat) (cr:List (List Nat)) (vr:List Value) (ac:Option Addr) (cc:Nat) (bk:Int) (fu:Nat),(PsOk Zc cell xp2 pl2/\ pl2.length<=c5)/\ (RwOk Zc cell vr cr/\ Rs Zc ac vr/\ cr.length<=cc)/\ (cr.length<=fu/\ insP (fillT cell) (asP l32) iN rows=pl2++chunkP (fillT cell) fu bk cr++bh)/\ kk=cr.length/\ ρ 17= .slice a5 pl2.length c5/\ ρ 24= .slice ac cr.length cc/\ ρ 26= .int .i64 bk/\ ρ 0= .pointer (some ⟨X.w,0,none⟩)/\ ρ 2=(vn cell)/\ ρ 12= .slice a32 l32.length c32/\ ρ 19= .slice a4 bh.length c4/\ ρ 25=(vn (fillT cell))/\ Dr BB (R*WkA X Y s*Zc*Sl 3 (.slice a5 pl2.length c5) pl2.length (ptsV xp2 pl2))) (m:=(CS).length) ?_ ?_
  . exact ⟨pl,xp,a3,c3,CS,VC,a114,c114,p.blk,p.cells.length+rows.length,⟨by rw [←hZc];exact hpsx.left.left,hplc2⟩,⟨hw9,hr9,by rw [hCl];exact hc114⟩,⟨by omega,by rw [hg2,hCS]⟩,rfl,rfl,by rw [hCl];rfl,rfl,rfl,rfl,rfl,rfl,rfl,drqz⟩
  intro k ρ B hI;obtain ⟨pl2,xp2,a5,c5,cr,vr,ac,cc,bk,fu,hq0,hq1,hq2,hkk2,hE17,hE24,hE26,hE0,hE2,hE12,hE19,hE25,hBA⟩:=hI;refine tc_pre hBA.sat ?_;clear hBA;refine te 17 hE17 ?_;refine te 24 hE24 ?_;refine te 26 hE26 ?_;refine te 0 hE0 ?_;refine te 2 hE2 ?_;refine te 12 hE12 ?_;refine te 19 hE19 ?_;refine te 25 hE25 ?_;refine Zl ?_;refine tv (o_len underlying35 rfl) ?_;refine Zd4 ?_;refine tc_cond rfl (λ h=> ?_) (λ h=> ?_)
  . have hcr0:0<cr.length:=(by first|omega|(simp at h;omega));obtain ⟨nn,hnn⟩:∃nn,min (fillT cell) cr.length=nn:=⟨_,rfl⟩;have hcl:(cr.take (fillT cell)).length=nn:=(by rw [List.length_take,hnn]);have hct:cr.take nn=cr.take (fillT cell):=(by rw [←hnn];exact take_min);have hcd:cr.drop nn=cr.drop (fillT cell):=(by rw [←hnn];exact drop_minT);have hdl:(cr.drop (fillT cell)).length=cr.length-nn:=(by rw [List.length_drop];omega);have hple:pl2.length<=100000:=(by have h9:=congrArg List.length hq2.2;rw [List.length_append,List.length_append] at h9;omega);have hqc:=hq1.2.2;have hxp2:=hq0.1.len;have hq2l:=hq2.1;refine Zbp ?_;refine Zbj ?_;refine tv (o_len underlying35 rfl) ?_;refine tv (o_min2 underlying3 rfl rfl) ?_;refine tl_env (d:=125) (v:=(vn nn)) (by show Value.int .i64 ((min (fillT cell) cr.length:Nat):Int)=_;rw [hnn]) ?_;refine Zbu ?_;refine Zv ?_;refine Zv ?_;refine tv (o_slice3n (h:=nn) (m:=nn) underlying35 sz67 rfl rfl rfl (Nat.le_refl _) oqz) ?_;refine tv (o_bS (l:=[_,_,_]) (pv_cons wqz (pv_cons wqz pv_nil)) underlying203 z203 (pl203 underlying203) rfl) ?_;refine tl_x rfl (o_buildSliceK (k:=3) (l:=[.int .i64 bk,.slice ac nn nn,.bool false]) underlying198 sz203 z203 rfl rfl (by decide)) ?_;rintro _ _ ⟨b133,rfl,rfl⟩;refine tl_x rfl (o_apB underlying198 underlying198 sz203 by203 z203 rfl (by decide) (by decide) rfl rfl rfl ctqz rfl rfl oqz (show _=ptsV (xp2++[⟨ac,nn,vr.take nn⟩]) (pl2++[⟨bk,cr.take (fillT cell),false⟩]) by rw [ptsV_snoc hxp2];show _=_++[_,Value.slice ac (cr.take (fillT cell)).length nn,_];rw [hcl])) ?_;rintro _ _ ⟨a134,c134,rfl,hc134,rfl⟩;refine Zhu ?_;refine tv (o_slice (l:=nn) (h:=cr.length) underlying35 sz67 rfl (bnd_nat rfl) bnd_none oqz oqz) ?_;refine tl_env (d:=137) (v:= .slice (cutAddr ac cc nn 1) (cr.drop (fillT cell)).length (cc-nn)) (by show Value.slice _ (cr.length-nn) _=_;rw [hdl]) ?_;refine Zg6 ?_;refine Za ?_;exact ⟨_,by omega,pl2++[⟨bk,cr.take (fillT cell),false⟩],xp2++[⟨ac,nn,vr.take nn⟩],_,_,cr.drop (fillT cell),vr.drop nn,cutAddr ac cc nn 1,cc-nn,-1,fu-1,⟨ps_snoc hq0.1 ⟨by show (cr.take (fillT cell)).length<=nn;omega,hq1.2.1.sub nn,by rw [←hct];exact rw_take hq1.1⟩,by rw [List.length_append];exact hc134⟩,⟨by rw [←hcd];exact rw_drop hq1.1,rs_dropV hq1.2.1 (by rw [hq1.1.1];omega),by omega⟩,⟨by omega,by rw [hq2.2,show fu=(fu-1)+1 by omega,chunk_go hcr0,Nat.add_sub_cancel];simp⟩,rfl,by rw [List.length_append];rfl,rfl,rfl,rfl,rfl,rfl,rfl,rfl,by rw [List.length_append];repeat (first|with_reducible exact dr_refl|apply dr_keep|apply dr_drop)⟩
  obtain rfl:cr=[]:=by have h9:=h;simp at h9;exact h9
  have hplan:=hq2.2;rw [chunk_nil,List.append_nil] at hplan
  have hple:(pl2++bh).length<=100000:=(by rw [←hplan];exact hPL);have hlab:(pl2++bh).length=pl2.length+bh.length:=List.length_append;have hrb:Rs Zc a4 (ptsV xb bh):=(by rw [←hZc];exact hrsb.left.left);have hpb:PsOk Zc cell xb bh:=(by rw [←hZc];exact hpsb.left.left);have hrw9:Rs Zc a32 (ptsV xs32 (asP l32)):=(by rw [←hZc];exact hrs.left.left);have hokp:∀q∈pl2++bh,OkP (fillT cell) q:=(by rw [←hplan];exact ins_ok oqz (λ q hq=>by obtain ⟨q8,hq8,hqe⟩:=List.mem_map.1 hq;rw [←hqe];exact ⟨(hrg q8 hq8).lo,(hrg q8 hq8).hi⟩));have hflt:=ins_flat (fill:=fillT cell) oqz (was:=asP l32) (ins:=rows) hiL;have hcar:=settle_car (plan:=pl2++bh) hrg hokp (λ x hx=>by rw [←hplan,hflt] at hx;rcases List.mem_append.1 hx with hx|hx;(rcases List.mem_append.1 hx with hx|hx;exact hrf x (List.mem_of_mem_take hx);exact hrc x hx);exact hrf x (List.mem_of_mem_drop hx)) (by rw [←hplan];exact ins_blks);refine Zk ?_;refine Zbj ?_;refine tl_x rfl (o_apR (xs:=ptsV xp2 pl2) (ys:=ptsV xb bh) (zs:=ptsV (xp2++xb) (pl2++bh)) underlying198 underlying198 sz203 by203 z203 rfl (by decide) (by decide) rfl rfl ctqz (by repeat (first|exact hrb.right|apply Rs.left)) (by rw [ptsV_len hpb.len,Nat.mul_comm]) (ptsV_all _ _) oqz (ptsV_app hq0.1.len).symm) ?_;rintro _ _ ⟨a140,c140,rfl,hc140,rfl⟩;refine Zbu ?_;refine Zfb ?_;refine tl_c rfl (o_call bd125 rfl (settle15_c (Y0:=Zc) (cell:=cell) (fill:=fillT cell) (xs:=xp2++xb) (l:=pl2++bh) (hY:=dr_mid) (hr:=rs_sl) (hps:=ps_app hq0.1 hpb) (hne:=hokp) (hf:=by omega) (hll:=by omega) (hm:=hlab))) ?_;rintro _ _ ⟨a145,c145,xs145,l145,Z145,hs145,rfl,hq145,rfl⟩;obtain ⟨hl145c,hl145n,hps145⟩:=hq145;rw [hs145] at hcar
  refine tlm ?_;refine tl_c rfl (o_call bd124 rfl (carry15_c (R:=R*Zc*Sl 3 (.slice a140 (pl2.length+bh.length) c140) (pl2.length+bh.length) (ptsV (xp2++xb) (pl2++bh))*Z145) (X:=X) (Y:=Y) (T:=T) (s:=s) (xs:=xs145) (ys:=xs32) (l:=l145) (lst:=l32) (hok:=hok) (hb:=hb) (ho:=ho) (hA:=by ac_rfl) (hcell:=hcell) (hrw:=(hrw9.right).left.left) (hys:=hxl) (hps:=by rw [show R*Zc*Sl 3 (.slice a140 (pl2.length+bh.length) c140) (pl2.length+bh.length) (ptsV (xp2++xb) (pl2++bh))*Z145=(R*Sl 3 (.slice a140 (pl2.length+bh.length) c140) (pl2.length+bh.length) (ptsV (xp2++xb) (pl2++bh)))*(Zc*Z145) by ac_rfl];exact hps145.right) (hol:=hcar) (hwu:=λ q hq=>(hrg q hq).u) (hwd:=hnd) (hll:=by omega) (hwl:=by omega))) ?_;rintro _ _ ⟨rf147,e147,T147,Y147,hcr147,rfl,hok147,rfl⟩;refine Zf ?_;refine Zy ?_;have hir:insR X.n X.ba cell s ref ((iN:Nat):Int) rows T=(rf147,e147,T147):=(by rw [hgo,hplan,hs145,hcr147]);exact ⟨.tuple #[.int .u32 ((rf147:Nat):Int),.int .i64 (e147)],C (WkA X Y147 s),res2 rfl rfl rfl,(λ g w h=>by rw [hC];exact Dr.sat (A':=R*WkA X Y147 s) drqz g w h),rf147,e147,T147,Y147,hir,rfl,by assumption,rfl⟩
end Go.Vl

namespace Go.Vl
open Go Go.Proofs Go.Proofs.Tryz
def delR (n ba cell:Nat)(s:DevS)(ref:Nat)(ix nx:Int)(T:WkT):Nat×Int×WkT:=
  if (partsR (usedB T) (conB T s ba) n cell ref).2≠0 then (0,(partsR (usedB T) (conB T s ba) n cell ref).2,T)
  else if ix<0∨nx<0∨((flatP (asP (partsR (usedB T) (conB T s ba) n cell ref).1)).length:Int)<ix∨((flatP (asP (partsR (usedB T) (conB T s ba) n cell ref).1)).length:Int)-ix<nx then (0,6,T)
  else if nx=0 then (ref,0,T)
  else carryT n ba cell s (partsR (usedB T) (conB T s ba) n cell ref).1 (settleS (fillT cell) (delP ix.toNat nx.toNat (asP (partsR (usedB T) (conB T s ba) n cell ref).1) 0)) T
section
variable {n ba cell ref:Nat} {s:DevS} {ix nx:Int} {T:WkT} {lst:List (Nat×List (List Nat))} {e:Int}
theorem delR_err (h:partsR (usedB T) (conB T s ba) n cell ref=(lst,e))(he:e≠0):delR n ba cell s ref ix nx T=(0,e,T):=by unfold delR;rw [h];exact if_pos he
theorem delR_rng (h:partsR (usedB T) (conB T s ba) n cell ref=(lst,0))(hi:ix<0∨nx<0∨((flatP (asP lst)).length:Int)<ix∨((flatP (asP lst)).length:Int)-ix<nx):delR n ba cell s ref ix nx T=(0,6,T):=by unfold delR;rw [h,if_neg (λ h9=>h9 rfl)];exact if_pos hi
theorem delR_nil (h:partsR (usedB T) (conB T s ba) n cell ref=(lst,0))(hi:¬(ix<0∨nx<0∨((flatP (asP lst)).length:Int)<ix∨((flatP (asP lst)).length:Int)-ix<nx))(h0:nx=0):delR n ba cell s ref ix nx T=(ref,0,T):=by unfold delR;rw [h,if_neg (λ h9=>h9 rfl),if_neg hi,if_pos h0]
theorem delR_go {i k:Nat}(h:partsR (usedB T) (conB T s ba) n cell ref=(lst,0))(hi:i+k<=(flatP (asP lst)).length)(h0:k≠0):delR n ba cell s ref ((i:Nat):Int) ((k:Nat):Int) T=carryT n ba cell s lst (settleS (fillT cell) (delP i k (asP lst) 0)) T:=by
  unfold delR;rw [h,if_neg (λ h9=>h9 rfl),if_neg (by dsimp only;omega),if_neg oqz];rfl
end
theorem delP_cons {i k a:Nat}{p:Prt}{l:List Prt}:delP i k (p::l) a=(if 0<(p.cells.take (min (i-a) p.cells.length)++p.cells.drop (min (i+k-a) p.cells.length)).length then [⟨p.blk,p.cells.take (min (i-a) p.cells.length)++p.cells.drop (min (i+k-a) p.cells.length),false⟩] else [])++delP i k l (a+p.cells.length):=by
  conv=>lhs;unfold delP
theorem dr_two {A Z X V:SP}:Dr (A*Z*X*V) (Z*V):=dr_keep dr_mid
theorem delP_nil {i k a:Nat}:delP i k [] a=[]:=by unfold delP;rfl
attribute [local irreducible] crk crL crc Sl pt ro Dev imgS recS readS recsF rdW rdO rkT Parts rvl recordsS runsL adrF kcl xcl kys runA runsF layF ovF TxA adZ WkA comS conB rootV ptsV
theorem Delete15_c {A R:SP}{C:SP->SP}{X:WkX}{Y:WkY}{T:WkT}{s:DevS}(hc:Ct A (WkA X Y s) R C:=by exact cbqz)(hok:WkOk X Y T (s.ls.length*64))(hb:WkB X s)(ho:s.off=false:=by assumption){ref cell:Nat}(hr1:ref<4294967296)(hcell:1<=cell/\ cell<=62){ix nx:Int}(hix: -9223372036854775808<=ix/\ ix<=9223372036854775807)(hnx: -9223372036854775808<=nx/\ nx<=9223372036854775807):
    Fn Tryz.prog 30 #[.pointer (some ⟨X.w,0,none⟩),.int .u32 ((ref:Nat):Int),vn cell,.int .i64 ix,.int .i64 nx] A (λ r B=>∃rf e T2 Y2,delR X.n X.ba cell s ref ix nx T=(rf,e,T2)/\ r= .tuple #[.int .u32 ((rf:Nat):Int),.int .i64 e]/\ WkOk X Y2 T2 (s.ls.length*64)/\ B=C (WkA X Y2 s)):=by
  refine fn_enterW func30 rfl ntmps30 (by simp) ?_;obtain ⟨hb1,hb2,hb3⟩:=id hb;have hfp:=fill_pos hcell;refine tc_have (λ _ _ h=>txa_wf (wka_txa hc) _ _ h) λ hwf=> ?_
  obtain ⟨rfl,hC⟩:=hc;refine Zg5 ?_;refine Zv ?_;refine tl_c rfl (o_call bd120 rfl (parts15_c (X:=X) (Y:=Y) (T:=T) (s:=s) (hok:=hok) (hb:=hb) (hr1:=hr1) (hcell:=hcell))) ?_;rintro _ _ ⟨l27,e27,a27,c27,xs27,Z27,hp27,rfl,hq27,rfl⟩;obtain ⟨⟨hlc,hln⟩,hrs,hps⟩:=hq27;have hrg:=partsR_rows hok hb hwf hp27;have hnd:=partsR_nodup hp27;have hrf:=rowG_flat hrg;have hfm:=flat_most hrg;have hxl:=hps.len;rw [asP_n] at hxl
  refine Zc3 ?_;refine Zbv ?_;refine tc_cond rfl (λ h=> ?_) (λ h=> ?_)
  . have he9:e27≠0:=(by first|exact of_decide_eq_true h|simpa using h);refine Zg7 ?_;have hir:delR X.n X.ba cell s ref ix nx T=(0,e27,T):=delR_err hp27 he9;exact ⟨.tuple #[.int .u32 ((0:Nat):Int),.int .i64 (e27)],C (WkA X Y s),res2 rfl rfl rfl,(λ g w h=>by rw [hC];exact Dr.sat (A':=R*WkA X Y s) drqz g w h),0,e27,T,Y,hir,rfl,by assumption,rfl⟩
  obtain rfl:e27=0:=by first|(have h9:=of_decide_eq_false h;omega)|(simp at h;omega)
  refine Zb9 ?_;refine tl_c rfl (o_call bd122 rfl (count15_c (xs:=xs27) (l:=asP l27) (hm:=asP_n _) (hl:=by rw [hxl,asP_n]) (hr:=(by repeat (first|exact hrs.right|apply Rs.left))) (hb:=by rw [asP_n];omega) (hf:=by omega))) ?_;refine Zgo ?_;refine Zb1 ?_;refine tc_cut (λ ρ BB=>∃ (bb:Bool),(bb=decide (ix<0∨nx<0∨((flatP (asP l27)).length:Int)<ix∨((flatP (asP l27)).length:Int)-ix<nx))/\ ρ 52= .bool bb/\ ρ 0= .pointer (some ⟨X.w,0,none⟩)/\ ρ 1= .int .u32 ((ref:Nat):Int)/\ ρ 2=(vn cell)/\ ρ 3= .int .i64 ix/\ ρ 4= .int .i64 nx/\ ρ 12= .slice a27 l27.length c27/\ Dr BB (R*WkA X Y s*Z27)) ?_ ?_
  . skip
    refine Zbq ?_;refine Zc0 ?_;refine tl_bool (d:=37) rfl (sbq ?_) (sbq ?_)
    . intro h;refine Zp ?_;refine Z4 ?_;refine Zf5 ?_;refine tk ?_;refine Zbg ?_;exact ⟨_,by first|exact (decide_eq_true oqz).symm|exact (decide_eq_false oqz).symm|(rw [decide_eq_decide];omega),rfl,rfl,rfl,rfl,rfl,rfl,rfl,drqz⟩
    intro h;refine Zhl ?_;refine tl_bool (d:=41) rfl (sbq ?_) (sbq ?_)
    . intro h;refine Zf5 ?_;refine tk ?_;refine Zbg ?_;exact ⟨_,by first|exact (decide_eq_true oqz).symm|exact (decide_eq_false oqz).symm|(rw [decide_eq_decide];omega),rfl,rfl,rfl,rfl,rfl,rfl,rfl,drqz⟩
    intro h;refine Zv ?_;refine Zdy ?_;refine tl_bool (d:=46) rfl (sbq ?_) (sbq ?_)
    . intro h;refine Zgl ?_;refine Zbg ?_;exact ⟨_,by first|exact (decide_eq_true oqz).symm|exact (decide_eq_false oqz).symm|(rw [decide_eq_decide];omega),rfl,rfl,rfl,rfl,rfl,rfl,rfl,drqz⟩
    intro h;refine Zfb ?_;refine Zc7 ?_;refine Zbx ?_;exact ⟨_,by first|exact (decide_eq_true oqz).symm|exact (decide_eq_false oqz).symm|(rw [decide_eq_decide];omega),rfl,rfl,rfl,rfl,rfl,rfl,rfl,drqz⟩
  intro ρ B hI;obtain ⟨bb,hbb0,hE52,hE0,hE1,hE2,hE3,hE4,hE12,hBA⟩:=hI;refine q_then_n ?_;refine tc_pre hBA.sat ?_;clear hBA;refine te 52 hE52 ?_;refine te 0 hE0 ?_;refine te 1 hE1 ?_;refine te 2 hE2 ?_;refine te 3 hE3 ?_;refine te 4 hE4 ?_;refine te 12 hE12 ?_;refine tc_cond rfl (λ h=> ?_) (λ h=> ?_)
  . have hbad:ix<0∨nx<0∨((flatP (asP l27)).length:Int)<ix∨((flatP (asP l27)).length:Int)-ix<nx:=(by rw [h] at hbb0;exact of_decide_eq_true hbb0.symm);refine Zfa ?_;have hir:delR X.n X.ba cell s ref ix nx T=(0,6,T):=delR_rng hp27 hbad;exact ⟨.tuple #[.int .u32 ((0:Nat):Int),.int .i64 (6)],C (WkA X Y s),res2 rfl rfl rfl,(λ g w h=>by rw [hC];exact Dr.sat (A':=R*WkA X Y s) drqz g w h),0,6,T,Y,hir,rfl,by assumption,rfl⟩
  have hgood:¬(ix<0∨nx<0∨((flatP (asP l27)).length:Int)<ix∨((flatP (asP l27)).length:Int)-ix<nx):=(by rw [h] at hbb0;exact of_decide_eq_false hbb0.symm);refine Zc4 ?_;refine Zcr ?_;refine tc_cond rfl (λ h=> ?_) (λ h=> ?_)
  . have hn0:nx=0:=(by first|exact of_decide_eq_true h|simpa using h);refine Zg7 ?_;have hir:delR X.n X.ba cell s ref ix nx T=(ref,0,T):=delR_nil hp27 hgood hn0;exact ⟨.tuple #[.int .u32 ((ref:Nat):Int),.int .i64 (0)],C (WkA X Y s),res2 rfl rfl rfl,(λ g w h=>by rw [hC];exact Dr.sat (A':=R*WkA X Y s) drqz g w h),ref,0,T,Y,hir,rfl,by assumption,rfl⟩
  have hn0:¬nx=0:=(by first|exact of_decide_eq_false h|simpa using h);obtain ⟨iN,hiN⟩:=Int.eq_ofNat_of_zero_le (show 0<=ix by omega);subst hiN;obtain ⟨kN,hkN⟩:=Int.eq_ofNat_of_zero_le (show 0<=nx by omega);subst hkN;have hik:iN+kN<=(flatP (asP l27)).length:=(by omega);have hgo:=delR_go hp27 hik oqz;obtain ⟨L,hL⟩:∃L,asP l27=L:=⟨_,rfl⟩;have hLn:L.length=l27.length:=(by rw [←hL,asP_n]);rw [hL] at hrs hps hik hgo
  refine Ze ?_;refine Zs ?_;refine Zs ?_;refine Zgx ?_;refine tc_pre (A':=R*WkA X Y s*Z27*Sl 3 (.slice none 0 0) 0 []*Sl 1 (.slice none 0 0) 0 []) (λ _ _ h=>sl_nil (sl_nil h)) ?_;refine tc_loop (λ kk ρ BB=>∃ (j:Nat) (m9:Nat) (a3:Option Addr) (c3:Nat) (pl:List Prt) (xp:List PtV) (Z2:SP),(j<=l27.length/\ m9=(flatP (L.take j)).length)/\ (delP iN kN L 0=pl++delP iN kN (L.drop j) m9)/\ (PsOk (Z27*Z2) cell xp pl)/\ (pl.length<=c3/\ pl.length<=j)/\ kk=l27.length-j/\ ρ 15= .slice a3 pl.length c3/\ ρ 16=(vn m9)/\ ρ 58=(vn j)/\ ρ 0= .pointer (some ⟨X.w,0,none⟩)/\ ρ 2=(vn cell)/\ ρ 3=(vn iN)/\ ρ 4=(vn kN)/\ ρ 12= .slice a27 l27.length c27/\ ρ 56= .slice a27 l27.length c27/\ ρ 57=(vn l27.length)/\ Dr BB (R*WkA X Y s*Z27*Sl 3 (.slice a3 pl.length c3) pl.length (ptsV xp pl)*Z2)) (m:=l27.length-(0)) ?_ ?_
  . exact ⟨0,0,none,0,([]:List Prt),([]:List PtV),Sl 1 (.slice none 0 0) 0 [],⟨Nat.zero_le _,by rw [List.take_zero];rfl⟩,by rw [List.drop_zero];rfl,ps_nil _ _,⟨Nat.zero_le _,Nat.zero_le _⟩,rfl,rfl,rfl,rfl,rfl,rfl,rfl,rfl,rfl,rfl,rfl,by rw [pts_nil2];exact dr_refl⟩
  intro k ρ B hI;obtain ⟨j,m9,a3,c3,pl,xp,Z2,hp0,hp1,hp2,hp3,hkk1,hE15,hE16,hE58,hE0,hE2,hE3,hE4,hE12,hE56,hE57,hBA⟩:=hI;refine tc_pre hBA.sat ?_;clear hBA;refine te 15 hE15 ?_;refine te 16 hE16 ?_;refine te 58 hE58 ?_;refine te 0 hE0 ?_;refine te 2 hE2 ?_;refine te 3 hE3 ?_;refine te 4 hE4 ?_;refine te 12 hE12 ?_;refine te 56 hE56 ?_;refine te 57 hE57 ?_;refine Zcg ?_;refine tc_cond rfl (λ h=> ?_) (λ h=> ?_)
  . obtain ⟨hp0,hm9⟩:=hp0;have hj:j<l27.length:=(by first|omega|(simp at h;omega));have hj3:j<L.length:=(by omega);have hj2:j<xs27.length:=(by omega);have hpt:=hps.ok j hj3 hj2;have hpat:=ptsV_at hj3 hj2;have hfl:=flat_take hj3;have hfl2:=flat_take_le L (j+1);have hdr:=List.drop_eq_getElem_cons hj3;obtain ⟨p,hp⟩:∃p,L[j]=p:=⟨_,rfl⟩;obtain ⟨x,hx⟩:∃x,xs27[j]=x:=⟨_,rfl⟩;rw [hp] at hfl hdr
    rw [hp,hx] at hpt hpat
    rw [hdr,delP_cons] at hp1
    have hpw:=hpt.w.1;have hpc:=hpt.c;have hLf:(flatP L).length=(flatP (asP l27)).length:=(by rw [hL]);obtain ⟨fr,hfr⟩:∃fr,min (iN-m9) p.cells.length=fr:=⟨_,rfl⟩;obtain ⟨to_,hto⟩:∃to_,min (iN+kN-m9) p.cells.length=to_:=⟨_,rfl⟩;rw [hfr,hto] at hp1
    have hcl:(p.cells.take fr++p.cells.drop to_).length=fr+(p.cells.length-to_):=(by rw [List.length_append,List.length_take,List.length_drop];omega);have hxp:=hp2.len;refine Zd5 ?_;refine tv (o_ixP (j:=j) underlying198 sz203 rfl rfl hj (nn_rs (xs:=ptsV xs27 L) (by repeat (first|exact hrs.right|apply Rs.left)) (λ _=>by rw [ptsV_len hps.len];omega))) ?_;refine tv (o_ldPN (vs:=x.cells p) a203 sz203 rfl (by repeat (first|exact hrs.right|apply Rs.left)) hpat rfl (by decide)) ?_;refine tl_x rfl (o_alloc (l:=[.int .i64 0,.slice none 0 0,.bool false]) z203 rfl) ?_;rintro _ _ ⟨b18,rfl,rfl⟩;refine tl_u rfl (o_stUN (l':=x.cells p) rfl upqz sz203 rfl rfl rfl (by exact Nat.le_refl 3) rfl) ?_;refine nq ?_;refine sr ?_;refine Zb0 ?_;refine tl_env (d:=63) (v:= .slice x.a p.cells.length x.c) (rfl) ?_;refine tv (o_len underlying35 rfl) ?_;refine Zee ?_;refine tv (o_subI rfl rfl oqz) ?_;refine tv (o_maxZ underlying3 rfl rfl) ?_;refine tl_env (d:=68) (v:=(vn (iN-m9))) (congrArg (Value.int .i64) oqz) ?_;refine Zif ?_;refine tl_env (d:=70) (v:=(vn fr)) (by show Value.int .i64 ((min (iN-m9) p.cells.length:Nat):Int)=_;rw [hfr]) ?_;refine Zee ?_;refine tv (o_addI rfl rfl oqz) ?_;refine Zfh ?_;refine tv (o_maxZ underlying3 rfl rfl) ?_;refine tl_env (d:=76) (v:=(vn (iN+kN-m9))) (congrArg (Value.int .i64) oqz) ?_;refine Zif ?_;refine tl_env (d:=78) (v:=(vn to_)) (by show Value.int .i64 ((min (iN+kN-m9) p.cells.length:Nat):Int)=_;rw [hto]) ?_;refine Zee ?_;refine tv adqz ?_;refine tl_env (d:=81) (v:=(vn (m9+p.cells.length))) (by first|rfl|exact congrArg (Value.int .i64) oqz) ?_;refine Zeh ?_;refine tc_regh mo dr_refl ?_
    show TH _ _ _ _ _ 11 (Array.replicate 11 false) _ _
    refine Zhc ?_;refine th_env (d:=83) (v:= .slice x.a p.cells.length x.c) (rfl) ?_;refine Zc9 ?_;refine tm 4 rfl kqz rfl (o_slice3n (h:=fr) (m:=fr) underlying35 sz67 rfl rfl rfl (Nat.le_refl _) oqz) ?_;refine Zhb ?_;refine th_env (d:=88) (v:= .slice x.a p.cells.length x.c) (rfl) ?_;refine tm 7 rfl kqz rfl (o_move wqz) ?_;refine tm 8 rfl kqz rfl (o_slice (l:=to_) (h:=p.cells.length) underlying35 sz67 rfl (bnd_nat rfl) bnd_none oqz oqz) ?_;refine th_one (i:=9) kqz ?_;refine oh_x rfl rfl rfl (o_apQ0 (Y:=Z27) (q:=fr) (xs:=x.vs.take fr) (ys:=x.vs.drop to_) (dr_drop (dr_drop dr_mid)) underlying35 underlying35 sz67 by67 z67 rfl (by decide) (by decide) rfl rfl (hpt.r.sub fr) (by rw [List.length_take,hpw,Nat.mul_one];omega) (by repeat (first|exact (rs_dropV hpt.r oqz).right|apply Rs.left)) (by rw [List.length_drop,hpw,Nat.mul_one]) (rw_one_all (rw_drop hpt.w)) oqz rfl) ?_;rintro _ _ ⟨a91,c91,Z91,rfl,hc91,rfl⟩;refine ⟨by repeat (first|with_reducible exact dr_refl|apply dr_keep|apply dr_drop), ?_⟩;refine tm 10 rfl kqz rfl (o_assign wqz) ?_;refine Zbs ?_;refine Zb ?_;refine tv (o_len underlying35 rfl) ?_;refine Zd4 ?_;refine tc_cond rfl (λ h=> ?_) (λ h=> ?_)
    . obtain ⟨hc91,hr91⟩:=hc91;have hpos:0<(p.cells.take fr++p.cells.drop to_).length:=(by rw [hcl];first|omega|(simp at h;omega));rw [if_pos hpos] at hp1
      have hnew:PtOk (Z27*(Z2*Z91)) cell ⟨a91,c91,x.vs.take fr++x.vs.drop to_⟩ ⟨p.blk,p.cells.take fr++p.cells.drop to_,false⟩:=⟨by show (p.cells.take fr++p.cells.drop to_).length<=c91;rw [hcl];exact hc91,by rw [show Z27*(Z2*Z91)=Z27*Z91*Z2 by ac_rfl];exact hr91.left,rw_app (rw_take hpt.w).left (rw_drop hpt.w).left⟩;refine Zbq ?_;refine Zbr ?_;refine tl_env (d:=97) (v:= .int .i64 p.blk) (rfl) ?_;refine tlm ?_;refine tv (o_bS (l:=[_,_,_]) (pv_cons wqz (pv_cons wqz pv_nil)) underlying203 z203 (pl203 underlying203) rfl) ?_;refine tl_x rfl (o_buildSliceK (k:=3) (l:=[.int .i64 p.blk,.slice a91 (fr+(p.cells.length-to_)) c91,.bool false]) underlying198 sz203 z203 rfl rfl (by decide)) ?_;rintro _ _ ⟨b100,rfl,rfl⟩;refine tl_x rfl (o_apB underlying198 underlying198 sz203 by203 z203 rfl (by decide) (by decide) rfl rfl rfl ctqz rfl rfl oqz (show _=ptsV (xp++[⟨a91,c91,x.vs.take fr++x.vs.drop to_⟩]) (pl++[⟨p.blk,p.cells.take fr++p.cells.drop to_,false⟩]) by rw [ptsV_snoc hxp];show _=_++[_,Value.slice a91 (p.cells.take fr++p.cells.drop to_).length c91,_];rw [hcl])) ?_;rintro _ _ ⟨a101,c101,rfl,hc101,rfl⟩;refine Zep ?_;exact ⟨_,by omega,j+1,m9+p.cells.length,a101,c101,pl++[⟨p.blk,p.cells.take fr++p.cells.drop to_,false⟩],xp++[⟨a91,c91,x.vs.take fr++x.vs.drop to_⟩],Z2*Z91,⟨by omega,by rw [hfl,hm9]⟩,(by rw [hp1];simp),(by rw [←star_assoc] at hnew ⊢;exact ps_snoc hp2.left hnew),⟨by rw [List.length_append];exact hc101,by rw [List.length_append,List.length_singleton];omega⟩,rfl,(by rw [List.length_append];rfl),rfl,rfl,rfl,rfl,rfl,rfl,rfl,rfl,rfl,(by rw [List.length_append,←star_assoc];repeat (first|with_reducible exact dr_refl|apply dr_keep|apply dr_drop))⟩
    have hpos:¬0<(p.cells.take fr++p.cells.drop to_).length:=(by rw [hcl];first|omega|(simp at h;omega));rw [if_neg hpos] at hp1
    refine Zgh ?_;exact ⟨_,by omega,j+1,m9+p.cells.length,a3,c3,pl,xp,Z2,⟨by omega,by rw [hfl,hm9]⟩,(by rw [hp1];simp),hp2,⟨hp3.1,by omega⟩,rfl,rfl,rfl,rfl,rfl,rfl,rfl,rfl,rfl,rfl,rfl,drqz⟩
  obtain ⟨hp0,hm9⟩:=hp0;obtain rfl:j=l27.length:=by first|omega|(simp at h;omega)
  rw [List.drop_of_length_le oqz,delP_nil,List.append_nil] at hp1
  have hplan:=hp1;have hokp:∀q∈pl,OkP (fillT cell) q:=(by rw [←hplan];exact λ q hq=>(del_ok (λ q hq=>by rw [←hL] at hq;obtain ⟨q8,hq8,hqe⟩:=List.mem_map.1 hq;rw [←hqe];exact ⟨(hrg q8 hq8).lo,(hrg q8 hq8).hi⟩) q hq).1);have hflt:=del_flat (i:=iN) (n:=kN) (l:=L) (at_:=0);have hcar:=settle_car (plan:=pl) hrg hokp (λ x hx=>by rw [←hplan,hflt] at hx;rw [hL] at hrf;rcases List.mem_append.1 hx with hx|hx;exact hrf x (List.mem_of_mem_take hx);exact hrf x (List.mem_of_mem_drop hx)) (by rw [←hplan,hL];exact del_blks);refine Zdq ?_;refine Zfb ?_;refine tl_c rfl (o_call bd34 rfl (Fill15_c (cell:=((cell:Nat):Int)) (hc:=⟨by omega,by omega⟩))) ?_;rintro _ _ ⟨rfl,rfl⟩;refine tl_env (d:=107) (v:=(vn (fillT cell))) (by show Value.int .i64 (if 1<=((cell:Nat):Int)/\ ((cell:Nat):Int)<=62 then ((fillT ((cell:Nat):Int).toNat:Nat):Int) else 0)=_;rw [if_pos oqz,Int.toNat_natCast]) ?_;refine tl_c rfl (o_call bd125 rfl (settle15_c (Y0:=Z27*Z2) (cell:=cell) (fill:=fillT cell) (xs:=xp) (l:=pl) (hY:=dr_two) (hr:=by repeat (first|with_reducible exact rs_sl|apply Rs.left)) (hps:=hp2) (hne:=hokp) (hf:=by omega) (hll:=by omega) (hm:=rfl))) ?_;rintro _ _ ⟨a108,c108,xs108,l108,Z108,hs108,rfl,hq108,rfl⟩;obtain ⟨hl108c,hl108n,hps108⟩:=hq108;rw [hs108] at hcar
  refine tlm ?_;refine tl_c rfl (o_call bd124 rfl (carry15_c (R:=R*Z27*Sl 3 (.slice a3 pl.length c3) pl.length (ptsV xp pl)*Z2*Z108) (X:=X) (Y:=Y) (T:=T) (s:=s) (xs:=xs108) (ys:=xs27) (l:=l108) (lst:=l27) (hok:=hok) (hb:=hb) (ho:=ho) (hA:=by ac_rfl) (hcell:=hcell) (hrw:=by rw [hL];exact (hrs.right).left.left.left) (hys:=hxl) (hps:=by rw [show R*Z27*Sl 3 (.slice a3 pl.length c3) pl.length (ptsV xp pl)*Z2*Z108=(R*Sl 3 (.slice a3 pl.length c3) pl.length (ptsV xp pl))*(Z27*Z2*Z108) by ac_rfl];exact hps108.right) (hol:=hcar) (hwu:=λ q hq=>(hrg q hq).u) (hwd:=hnd) (hll:=by omega) (hwl:=by omega))) ?_;rintro _ _ ⟨rf110,e110,T110,Y110,hcr110,rfl,hok110,rfl⟩;refine Zf ?_;refine Zy ?_;have hir:delR X.n X.ba cell s ref ((iN:Nat):Int) ((kN:Nat):Int) T=(rf110,e110,T110):=(by rw [hgo,hplan,hs108,hcr110]);exact ⟨.tuple #[.int .u32 ((rf110:Nat):Int),.int .i64 (e110)],C (WkA X Y110 s),res2 rfl rfl rfl,(λ g w h=>by rw [hC];exact Dr.sat (A':=R*WkA X Y110 s) drqz g w h),rf110,e110,T110,Y110,hir,rfl,by assumption,rfl⟩
end Go.Vl

namespace Go.Vl
open Go Go.Proofs Go.Proofs.Tryz
theorem partsR_tbl {u:Nat->Bool}{c:Nat->List Nat}{nb cell ref:Nat}{l:List (Nat×List (List Nat))}(h:Tbl u c cell ref l)(hcell:1<=cell/\ cell<=62)(hl:l.length<=nb+1):partsR u c nb cell ref=(l,0):=by
  unfold partsR
  rw [tbl_parts h hcell (nb+3) [] oqz (by simpa using hl) (λ p q h1 _=>by cases h1),List.nil_append]
theorem tbl_few {u:Nat->Bool}{c:Nat->List Nat}{n cell ref:Nat}{l:List (Nat×List (List Nat))}(h:Tbl u c cell ref l)(hu:∀b,u b=true->b<n):l.length<=n:=by
  have h1:=tbl_nodup h
  have h2:(l.map (·.1)).length<=n:=nodup_le h1 λ b hb=>by
    obtain ⟨x,hx,rfl⟩:=List.mem_map.1 hb;have:=((tbl_facts h).1 ⟨((x.1:Nat):Int),x.2,false⟩ (List.mem_map.2 ⟨x,hx,rfl⟩)).2.2.1;exact hu _ (by simpa using this)
  rwa [List.length_map] at h2
theorem insR_tbl {n ba cell ref i:Nat}{s:DevS}{T:WkT}{lst:List (Nat×List (List Nat))}{rows:List (List Nat)}(h:Tbl (usedB T) (conB T s ba) cell ref lst)(hcell:1<=cell/\ cell<=62)(hu:∀b,usedB T b=true->b<n)(hi:i<=(flatP (asP lst)).length):insR n ba cell s ref ((i:Nat):Int) rows T=ins15 n ba cell s ref lst i rows T:=by
  have hp:=partsR_tbl (nb:=n) h hcell (by have:=tbl_few h hu;omega)
  unfold ins15
  by_cases h0:rows.length=0
  . rw [if_pos h0,insR_nil hp oqz h0]
  rw [if_neg h0,insR_go hp hi h0];rfl
theorem delR_tbl {n ba cell ref i k:Nat}{s:DevS}{T:WkT}{lst:List (Nat×List (List Nat))}(h:Tbl (usedB T) (conB T s ba) cell ref lst)(hcell:1<=cell/\ cell<=62)(hu:∀b,usedB T b=true->b<n)(hi:i+k<=(flatP (asP lst)).length):delR n ba cell s ref ((i:Nat):Int) ((k:Nat):Int) T=del15 n ba cell s ref lst i k T:=by
  have hp:=partsR_tbl (nb:=n) h hcell (by have:=tbl_few h hu;omega)
  unfold del15
  by_cases h0:k=0
  . rw [if_pos h0,delR_nil hp oqz oqz]
  rw [if_neg h0,delR_go hp hi h0];rfl
attribute [local irreducible] crk crL crc Sl pt ro Dev imgS recS readS recsF rdW rdO rkT Parts rvl recordsS runsL adrF kcl xcl kys runA runsF layF ovF TxA adZ WkA comS conB rootV ptsV
end Go.Vl

namespace Go.Vl
open Go Go.Proofs Go.Proofs.Tryz
theorem ref_b (b:Nat):∀x∈le 4 (b+1),x<256:=le_bytes _ _
theorem ref_nm {b:Nat}(h:b+1<4294967296):nm (((le 4 (b+1)).drop 0).take 4)=b+1:=by
  rw [List.drop_zero,List.take_of_length_le (by rw [le_length];exact Nat.le_refl _),nm_le];exact Nat.mod_eq_of_lt h
theorem hens_take1 {l:List (Nat×Hcg)}{i:Nat}(h:i<l.length):hens (l.take i)++Hen l[i]=hens (l.take (i+1)):=by
  rw [List.take_succ_eq_append_getElem h,hens_snoc]
attribute [local irreducible] crk crL crc Sl pt ro Dev imgS recS readS recsF rdW rdO rkT Parts rvl recordsS runsL adrF kcl xcl kys runA runsF layF ovF TxA adZ WkA comS conB rootV ptsV
theorem entries21_c {A R:SP}{C:SP->SP}{X:WkX}{Y:WkY}{T:WkT}{s:DevS}(hc:Ct A (WkA X Y s) R C:=by exact cbqz)(hok:WkOk X Y T (s.ls.length*64))(hb:WkB X s)(ho:s.off=false:=by assumption){a:Option Addr}{m c:Nat}{vs:List Value}{es:List (Nat×Hcg)}(hr:Rs A a vs)(hw:RwOk A 4 vs (es.map refC))(hm:es.length=m)(hm16:m<=16)(hE:∀x∈es,whS (usedB T) (conB T s X.ba) (x.1+1)=(sbys (packB x.2),[x.1],0)/\ unpC (packB x.2)=(x.2,0)/\ (packB x.2).size<=248/\ HcgW x.2/\ x.1+1<=X.n):
    Fn Tryz.prog 214 #[.pointer (some ⟨X.w,0,none⟩),.slice a m c] A (λ r B=>∃a9 c9,r= .tuple #[.slice a9 es.length c9,.int .i64 0]/\ es.length<=c9/\ B=A*Sl 4 (.slice a9 es.length c9) es.length (hens es)):=by
  refine fn_enterW func214 rfl ntmps214 (by simp) ?_;obtain ⟨hb1,hb2,hb3⟩:=id hb;have hvl:=hw.1;rw [List.length_map] at hvl
  refine sr ?_;refine Zm ?_;refine Zdd ?_;refine Zfk ?_;refine tc_pre (A':=A*Sl 4 (.slice none 0 0) 0 []) (λ _ _ h=>sl_nil h) ?_;refine tc_loop (λ kk ρ BB=>∃ (i:Nat) (a6:Option Addr) (c6:Nat),(i<=m/\ i<=c6)/\ kk=m-i/\ ρ 6= .slice a6 i c6/\ ρ 16=(vn i)/\ ρ 0= .pointer (some ⟨X.w,0,none⟩)/\ ρ 14= .slice a m c/\ ρ 15=(vn m)/\ Dr BB (A*Sl 4 (.slice a6 i c6) i (hens (es.take i)))) (m:=m-(0)) ?_ ?_
  . exact ⟨0,none,0,⟨Nat.zero_le _,Nat.zero_le _⟩,rfl,rfl,rfl,rfl,rfl,rfl,drqz⟩
  intro k ρ B hI;obtain ⟨i,a6,c6,hp0,hkk1,hE6,hE16,hE0,hE14,hE15,hBA⟩:=hI;refine tc_pre hBA.sat ?_;clear hBA;refine te 6 hE6 ?_;refine te 16 hE16 ?_;refine te 0 hE0 ?_;refine te 14 hE14 ?_;refine te 15 hE15 ?_;refine Zcg ?_;refine tc_cond rfl (λ h=> ?_) (λ h=> ?_)
  . have hi:i<m:=(by first|omega|(simp at h;omega));have hi2:i<es.length:=(by omega);obtain ⟨ra,rc,hv1,hv2⟩:=hw.2 i (by rw [List.length_map];exact hi2);obtain ⟨x,hx⟩:∃x,es[i]=x:=⟨_,rfl⟩;obtain ⟨hE1,hE2,hE3,hE4,hE5⟩:=hE x (hx▸List.getElem_mem hi2);rw [List.getElem_map,hx] at hv2
    have hht:=hens_take1 hi2;rw [hx] at hht
    refine Zd5 ?_;refine tv (o_ixP1 (a:=a) underlying35 sz67 rfl rfl hi (nn_rs (xs:=vs) (by repeat (first|exact hr|exact Rs.right hr|apply Rs.left)) (λ _=>by rw [hvl];omega))) ?_;refine tv (o_ldP (a:=a) (xs:=vs) p67 rfl (by repeat (first|exact hr|exact Rs.right hr|apply Rs.left)) hv1) ?_;refine Zbu ?_;refine tl_c rfl (o_call bd68 rfl (Take32_c (p:=0) (xs:=le 4 (x.1+1)) (m:=4) (hr:=(by repeat (first|exact hv2|exact Rs.right hv2|apply Rs.left))) (hb:=ref_b x.1) (hm:=le_length _ _))) ?_;rintro _ _ ⟨rfl,rfl⟩;refine Zbe ?_;refine tla ?_;refine tl_env (d:=9) (v:= .int .u32 ((x.1+1:Nat):Int)) (by show Value.int .u32 ((nm (((le 4 (x.1+1)).drop 0).take 4):Nat):Int)=_;rw [ref_nm oqz]) ?_;refine Zee ?_;refine tl_c rfl (o_call bd97 rfl (GetB_c (ho:=ho) (hc:=by repeat (first|exact hc|apply ct_left)) (X:=X) (Y:=Y) (T:=T) (s:=s) (hok:=hok) (hb:=hb) (ref:=x.1+1) (hr1:=by omega))) ?_;rintro _ _ ⟨t28,l28,e28,hw28,rfl,rfl⟩;rw [hE1] at hw28
    obtain ⟨rfl,h9⟩:=Prod.mk.inj hw28;obtain ⟨rfl,rfl⟩:=Prod.mk.inj h9;rw [sob_sbys]
    refine Zf2 ?_;intro h;refine Zb9 ?_;refine tl_c rfl (o_call bd11 rfl (Unpack21_c (s:=packB x.2) (hs:=by omega))) ?_;rintro _ _ ⟨rfl,rfl⟩;refine Zbe ?_;refine tl_x rfl (o_alloc (l:=[.int .i64 0,.string ⟨#[]⟩,.string ⟨#[]⟩]) z23 rfl) ?_;rintro _ _ ⟨b13,rfl,rfl⟩;refine tl_u rfl (o_stUN (l':=x.2.cells) rfl upqz sz23 (by show Value.agg (unpC (packB x.2)).1.cells.toArray=_;rw [hE2]) rfl rfl (by exact Nat.le_refl 3) rfl) ?_;refine Zds ?_;refine Zbv ?_;refine tc_cond rfl (λ h=> ?_) (sbq ?_)
    . exfalso;simp [hE2] at h
    intro h;refine Ze ?_;refine Zb5 ?_;refine tv (o_loadN (vs:=x.2.cells) a23 sz23 rfl hsqz (by exact Nat.le_refl 3) rfl) ?_;refine tv (o_buildS (l:=Hen x) underlying247 z247 (pl247 underlying247) rfl rfl) ?_;refine tl_x rfl (o_buildSliceK (k:=4) (l:=Hen x) underlying212 sz247 z247 rfl rfl (by decide)) ?_;rintro _ _ ⟨b46,rfl,rfl⟩;refine tl_x rfl (o_apB underlying212 underlying212 sz247 by247 z247 rfl (by decide) (by decide) rfl rfl rfl ctqz rfl rfl oqz hht) ?_;rintro _ _ ⟨a47,c47,rfl,hc47,rfl⟩;refine Zep ?_;exact ⟨_,by omega,i+1,_,_,⟨by omega,hc47⟩,rfl,rfl,rfl,rfl,rfl,rfl,drqz⟩
  obtain rfl:i=m:=by first|omega|(simp at h;omega)
  rw [List.take_of_length_le oqz]
  refine Zgj ?_;exact ⟨.tuple #[.slice a6 i c6,.int .i64 0],A*Sl 4 (.slice a6 i c6) i (hens es),res2 rfl rfl rfl,Dr.sat drqz,a6,c6,by rw [hm],by omega,by rw [hm]⟩
def hisV (X:WkX)(r1 r2:Nat):List Value:=[.pointer (some ⟨X.w,0,none⟩),.int .u32 ((r1:Nat):Int),.int .u32 ((r2:Nat):Int)]
theorem HsI.hE {n ba r1 r2:Nat}{s:DevS}{T:WkT}{l1 l2:List (Nat×List (List Nat))}{us rs:List (Nat×Hcg)}(h:HsI n ba s T r1 l1 r2 l2 us rs):∀x∈us,whS (usedB T) (conB T s ba) (x.1+1)=(sbys (packB x.2),[x.1],0)/\ unpC (packB x.2)=(x.2,0)/\ (packB x.2).size<=248/\ HcgW x.2/\ x.1+1<=n:=λ x hx=>h.get (List.mem_append_left _ hx)
theorem HsI.parts {n ba r1 r2:Nat}{s:DevS}{T:WkT}{l1 l2:List (Nat×List (List Nat))}{us rs:List (Nat×Hcg)}(h:HsI n ba s T r1 l1 r2 l2 us rs):partsR (usedB T) (conB T s ba) n 4 r1=(l1,0)/\ (flatP (asP l1)).length=us.length:=by
  refine ⟨partsR_tbl h.g.t1 (by decide) (by have:=tbl_few h.g.t1 h.g.lt;omega),by rw [h.c1,List.length_map]⟩
theorem read21_c {A R:SP}{C:SP->SP}{X:WkX}{Y:WkY}{T:WkT}{s:DevS}(hc:Ct A (WkA X Y s) R C:=by exact cbqz)(hok:WkOk X Y T (s.ls.length*64))(hb:WkB X s)(ho:s.off=false:=by assumption){r1 r2:Nat}{l1 l2:List (Nat×List (List Nat))}{us rs:List (Nat×Hcg)}(hI:HsI X.n X.ba s T r1 l1 r2 l2 us rs)(hn16:us.length+rs.length<=16):
    Fn Tryz.prog 135 #[.pointer (some ⟨X.w,0,none⟩),.agg #[.int .u32 ((r1:Nat):Int),.int .u32 ((r2:Nat):Int)]] A (λ r B=>∃au cu ar cr,r= .tuple #[.slice au us.length cu,.slice ar rs.length cr,.int .i64 0]/\ (us.length<=cu/\ rs.length<=cr)/\ B=A*Sl 4 (.slice au us.length cu) us.length (hens us)*Sl 4 (.slice ar rs.length cr) rs.length (hens rs)):=by
  refine fn_enterW func135 rfl ntmps135 (by simp) ?_;obtain ⟨hb1,hb2,hb3⟩:=id hb;obtain ⟨hP1,hF1⟩:=hI.parts;obtain ⟨hP2,hF2⟩:=hI.swap.parts;obtain ⟨hR1,hR2⟩:=hI.g.ref;have hc1:=hI.c1;have hc2:=hI.c2;have hE1:=hI.hE;have hE2:=hI.swap.hE;refine sr ?_;refine tl_x rfl (o_box rfl (l:=[.int .u32 ((r1:Nat):Int),.int .u32 ((r2:Nat):Int)]) rfl) ?_;rintro _ _ ⟨b3,rfl,rfl⟩;refine tla ?_;refine Zcs ?_;refine tv (o_fieldAddr (o:=0) underlying134 rfl rfl sz53 rfl) ?_;refine tv (o_load p53 rfl hsqz rfl) ?_;refine tl_env (d:=12) (v:= .int .u32 ((r1:Nat):Int)) (rfl) ?_;refine tl_c rfl (o_call bd32 rfl (Cells15_c (ho:=ho) (hc:=by repeat (first|exact hc|apply ct_left)) (X:=X) (Y:=Y) (T:=T) (s:=s) (hok:=hok) (hb:=hb) (ref:=r1) (cell:=4) (hr1:=by omega) (hcell:=by decide))) ?_;rintro _ _ ⟨l13,e13,a13,c13,vs13,Z13,hp13,rfl,hq13,rfl⟩;rw [hP1] at hp13
  obtain ⟨rfl,rfl⟩:=Prod.mk.inj hp13;rw [hc1,List.length_map] at hq13
  rw [hF1]
  obtain ⟨hq13a,hq13b,hq13c⟩:=hq13;refine Zf2 ?_;intro h;refine Zb9 ?_;refine tv (o_fieldAddr (o:=1) underlying134 rfl rfl sz53 rfl) ?_;refine tv (o_load p53 rfl hsqz rfl) ?_;refine tl_env (d:=22) (v:= .int .u32 ((r2:Nat):Int)) (rfl) ?_;refine tl_c rfl (o_call bd32 rfl (Cells15_c (ho:=ho) (hc:=by repeat (first|exact hc|apply ct_left)) (X:=X) (Y:=Y) (T:=T) (s:=s) (hok:=hok) (hb:=hb) (ref:=r2) (cell:=4) (hr1:=by omega) (hcell:=by decide))) ?_;rintro _ _ ⟨l23,e23,a23,c23,vs23,Z23,hp23,rfl,hq23,rfl⟩;rw [hP2] at hp23
  obtain ⟨rfl,rfl⟩:=Prod.mk.inj hp23;rw [hc2,List.length_map] at hq23
  rw [hF2]
  obtain ⟨hq23a,hq23b,hq23c⟩:=hq23;refine Zf2 ?_;intro h;refine Zc4 ?_;refine tv (o_len underlying35 rfl) ?_;refine tlm ?_;refine tv (o_len underlying35 rfl) ?_;refine tv adqz ?_;refine tv (o_gtr rfl rfl) ?_;refine Zn ?_;intro h;refine Zc4 ?_;refine tlm ?_;refine tl_c rfl (o_call bd214 rfl (entries21_c (ho:=ho) (hc:=by repeat (first|exact hc|apply ct_left)) (X:=X) (Y:=Y) (T:=T) (s:=s) (hok:=hok) (hb:=hb) (es:=us) (vs:=vs13) (hr:=(by repeat (first|exact hq13b|exact Rs.right hq13b|apply Rs.left))) (hw:=hq13c.right.left) (hm:=rfl) (hm16:=by omega) (hE:=hE1))) ?_;rintro _ _ ⟨a38,c38,rfl,hc38,rfl⟩;refine Zey ?_;refine Zz ?_;intro h;refine Zc4 ?_;refine tlm ?_;refine tl_c rfl (o_call bd214 rfl (entries21_c (ho:=ho) (hc:=by repeat (first|exact hc|apply ct_left)) (X:=X) (Y:=Y) (T:=T) (s:=s) (hok:=hok) (hb:=hb) (es:=rs) (vs:=vs23) (hr:=(by repeat (first|exact hq23b|exact Rs.right hq23b|apply Rs.left))) (hw:=hq23c.right.left) (hm:=rfl) (hm16:=by omega) (hE:=hE2))) ?_;rintro _ _ ⟨a47,c47,rfl,hc47,rfl⟩;refine Zey ?_;refine Zz ?_;intro h;refine Zeb ?_;refine tla ?_;refine Zy ?_;exact ⟨.tuple #[.slice a38 us.length c38,.slice a47 rs.length c47,.int .i64 0],A*Sl 4 (.slice a38 us.length c38) us.length (hens us)*Sl 4 (.slice a47 rs.length c47) rs.length (hens rs),res3 rfl rfl rfl rfl,Dr.sat drqz,a38,c38,a47,c47,rfl,⟨hc38,hc47⟩,rfl⟩
theorem Zdl {p r:Prop}(k:r)(h:Kq r->p:=by intro k;refine Zbz ?_;refine tm 2 rfl kqz rfl (o_fieldAddr (o:=0) underlying136 rfl rfl sz46 rfl) ?_;exact k.o):p:=h ⟨k⟩
theorem Zeg {p r:Prop}(k:r)(h:Kq r->p:=by intro k;refine Zdi ?_;refine tm 6 rfl kqz rfl (o_fieldAddr (o:=1) underlying136 rfl rfl sz134 rfl) ?_;exact k.o):p:=h ⟨k⟩
theorem Hread_c {A R:SP}{C:SP->SP}{X:WkX}{Y:WkY}{T:WkT}{s:DevS}(hc:Ct A (WkA X Y s) R C:=by exact cbqz)(hok:WkOk X Y T (s.ls.length*64))(hb:WkB X s)(ho:s.off=false:=by assumption){r1 r2:Nat}{l1 l2:List (Nat×List (List Nat))}{us rs:List (Nat×Hcg)}(hI:HsI X.n X.ba s T r1 l1 r2 l2 us rs)(hn16:us.length+rs.length<=16){hh:Nat}(hih:Has A hh (cl (hisV X r1 r2) 136)):
    Fn Tryz.prog 136 #[pz hh] A (λ r B=>∃au cu ar cr,r= .tuple #[.slice au us.length cu,.slice ar rs.length cr,.int .i64 0]/\ (us.length<=cu/\ rs.length<=cr)/\ B=A*Sl 4 (.slice au us.length cu) us.length (hens us)*Sl 4 (.slice ar rs.length cr) rs.length (hens rs)):=by
  refine fn_enterW func136 rfl ntmps136 (by simp) ?_;refine sr ?_;refine tla ?_;refine Zbo ?_;refine tv (o_eqp underlying88 rfl rfl) ?_;refine Zn ?_;intro h;refine Zdv ?_;refine tc_regh mo dr_refl ?_
  show TH _ _ _ _ _ 15 (Array.replicate 15 false) _ _
  refine Zdl ?_;refine tm 3 rfl kqz rfl (o_load p46 rfl (by repeat (first|exact hih|apply has_left)) rfl) ?_;refine th_env (d:=10) (v:= .pointer (some ⟨X.w,0,none⟩)) (rfl) ?_;refine Zeg ?_;refine tm 7 rfl kqz rfl (o_loadN (vs:=[.int .u32 ((r1:Nat):Int),.int .u32 ((r2:Nat):Int)]) a134 sz134 rfl (by repeat (first|exact hih|apply has_left)) (by show 1+2<=3;decide) rfl) ?_;refine th_one (i:=8) kqz ?_;refine oh_c rfl rfl rfl (o_call bd135 rfl (read21_c (ho:=ho) (hc:=by repeat (first|exact hc|apply ct_left)) (X:=X) (Y:=Y) (T:=T) (s:=s) (hok:=hok) (hb:=hb) (r1:=r1) (r2:=r2) (hI:=hI) (hn16:=hn16))) ?_;rintro _ _ ⟨au15,cu15,ar15,cr15,rfl,hl15,rfl⟩;refine ⟨by repeat (first|with_reducible exact dr_refl|apply dr_keep|apply dr_drop), ?_⟩;refine tm 9 rfl kqz rfl (o_extract rfl rfl) ?_;refine Zfx ?_;refine tm 12 rfl kqz rfl (o_assign wqz) ?_;refine tm 13 rfl kqz rfl (o_assign wqz) ?_;refine tm 14 rfl kqz rfl (o_assign wqz) ?_;refine Zbs ?_;refine tc_ret ?_;exact ⟨.tuple #[.slice au15 us.length cu15,.slice ar15 rs.length cr15,.int .i64 0],A*Sl 4 (.slice au15 us.length cu15) us.length (hens us)*Sl 4 (.slice ar15 rs.length cr15) rs.length (hens rs),res3 rfl rfl rfl rfl,Dr.sat drqz,au15,cu15,ar15,cr15,rfl,hl15,rfl⟩
theorem Open21_c {A R:SP}{C:SP->SP}{X:WkX}{Y:WkY}{T:WkT}{s:DevS}(hc:Ct A (WkA X Y s) R C:=by exact cbqz)(hok:WkOk X Y T (s.ls.length*64))(hb:WkB X s)(ho:s.off=false:=by assumption){r1 r2:Nat}{l1 l2:List (Nat×List (List Nat))}{us rs:List (Nat×Hcg)}(hI:HsI X.n X.ba s T r1 l1 r2 l2 us rs)(hn16:us.length+rs.length<=16):
    Fn Tryz.prog 41 #[.pointer (some ⟨X.w,0,none⟩),.int .u32 ((r1:Nat):Int),.int .u32 ((r2:Nat):Int)] A (λ r B=>∃b,r= .tuple #[pz b,.int .i64 0]/\ B=A*pt b (cl (hisV X r1 r2) 136)):=by
  refine fn_enterW func41 rfl ntmps41 (by simp) ?_;refine sr ?_;refine Zm ?_;refine Zbj ?_;refine tv (o_buildS (l:=[.int .u32 ((r1:Nat):Int),.int .u32 ((r2:Nat):Int)]) underlying134 z134 (pl134 underlying134) rfl rfl) ?_;refine tl_x rfl (o_alloc (l:=[.int .u32 0,.int .u32 0]) z134 rfl) ?_;rintro _ _ ⟨b8,rfl,rfl⟩;refine tl_u rfl (o_stUN (l':=[.int .u32 ((r1:Nat):Int),.int .u32 ((r2:Nat):Int)]) rfl upqz sz134 rfl rfl rfl (by exact Nat.le_refl 2) rfl) ?_;refine Zh3 ?_;refine tv (o_loadN (vs:=[.int .u32 ((r1:Nat):Int),.int .u32 ((r2:Nat):Int)]) a134 sz134 rfl hsqz (by exact Nat.le_refl 2) rfl) ?_;refine tl_c rfl (o_call bd135 rfl (read21_c (ho:=ho) (hc:=by repeat (first|exact hc|apply ct_left)) (X:=X) (Y:=Y) (T:=T) (s:=s) (hok:=hok) (hb:=hb) (r1:=r1) (r2:=r2) (hI:=hI) (hn16:=hn16))) ?_;rintro _ _ ⟨au18,cu18,ar18,cr18,rfl,hl18,rfl⟩;refine Zf6 ?_;refine Zcs ?_;refine Zz ?_;intro h;refine Zb9 ?_;refine tv (o_loadN (vs:=[.int .u32 ((r1:Nat):Int),.int .u32 ((r2:Nat):Int)]) a134 sz134 rfl hsqz (by exact Nat.le_refl 2) rfl) ?_;refine tv (o_buildS (l:=hisV X r1 r2) underlying136 z136 (pl136 underlying136) rfl rfl) ?_;refine tl_x rfl (o_box rfl (l:=hisV X r1 r2) rfl) ?_;rintro _ _ ⟨b28,rfl,rfl⟩;refine Zy ?_;exact ⟨.tuple #[pz b28,.int .i64 0],A*pt b28 (cl (hisV X r1 r2) 136),res2 rfl rfl rfl,Dr.sat drqz,b28,rfl,rfl⟩
theorem Len21_c {A R:SP}{C:SP->SP}{X:WkX}{Y:WkY}{T:WkT}{s:DevS}(hc:Ct A (WkA X Y s) R C:=by exact cbqz)(hok:WkOk X Y T (s.ls.length*64))(hb:WkB X s)(ho:s.off=false:=by assumption){r1 r2:Nat}{l1 l2:List (Nat×List (List Nat))}{us rs:List (Nat×Hcg)}(hI:HsI X.n X.ba s T r1 l1 r2 l2 us rs)(hn16:us.length+rs.length<=16){hh:Nat}(hih:Has A hh (cl (hisV X r1 r2) 136)):
    Fn Tryz.prog 47 #[pz hh] A (λ r B=>r= .tuple #[vn us.length,vn rs.length]/\ A=B):=by
  refine fn_enterW func47 rfl ntmps47 (by simp) ?_;refine Zg5 ?_;refine tl_c rfl (o_call bd136 rfl (Hread_c (ho:=ho) (hc:=by repeat (first|exact hc|apply ct_left)) (X:=X) (Y:=Y) (T:=T) (s:=s) (hok:=hok) (hb:=hb) (r1:=r1) (r2:=r2) (hI:=hI) (hn16:=hn16) (hih:=hih))) ?_;rintro _ _ ⟨au9,cu9,ar9,cr9,rfl,hl9,rfl⟩;refine Zf6 ?_;refine Zcs ?_;refine tv (o_len underlying212 rfl) ?_;refine tlm ?_;refine tv (o_len underlying212 rfl) ?_;refine Zy ?_;exact ⟨.tuple #[vn us.length,vn rs.length],A,res2 rfl rfl rfl,Dr.sat drqz,rfl,rfl⟩
end Go.Vl

namespace Go.Vl
open Go Go.Proofs Go.Proofs.Tryz
theorem agr_p {δ:Df}{n:Nat}{ρ:Env}{a:Act}(h:Agr n ρ a):δ.ok ρ a.defers/\ a.tmps.size=n/\∀t,t<n->a.tmps.getD t undef=ρ t:=⟨h.df,h.sz,h.ev⟩
abbrev dfT (f:FuncId):Df:=⟨λ ρ ds=>∃N,∀t,N<=t->(ρ t=undef/\ ds=[])∨∃vs,ρ t= .agg vs/\ ds=[{ target:= .fn (.func f) #[],args:=vs }],λ ρ d v ds ⟨N,h⟩=>⟨max N (d+1),λ t ht=>by
  have:Nat.beq t d=false:=by
    cases hb:Nat.beq t d with
    |false=>rfl
    |true=>have:=Nat.eq_of_beq_eq_true hb;omega
  simp only [upd,this,cond_false]
  exact h t oqz⟩⟩
def Tl (n:Nat)(ρ:Env)(v:Value):Prop:=∀t,n<=t->ρ t=v
def tlS (n:Nat)(ρ:Env)(v:Value):Env:=λ t=>bif Nat.blt t n then ρ t else v
theorem tl_upd {n d:Nat}{ρ:Env}{v x:Value}(h:Tl n ρ v)(hd:Nat.blt d n=true:=by rfl):Tl n (upd ρ d x) v:=λ t ht=>by
  have hlt:=Nat.blt_eq.mp hd
  have:Nat.beq t d=false:=by
    cases hb:Nat.beq t d with
    |false=>rfl
    |true=>have:=Nat.eq_of_beq_eq_true hb;omega
  simp only [upd,this,cond_false]
  exact h t ht
theorem tl_tls {n:Nat}{ρ:Env}{v:Value}:Tl n (tlS n ρ v) v:=λ t ht=>by
  have:Nat.blt t n=false:=by
    cases hb:Nat.blt t n with
    |false=>rfl
    |true=>have:=Nat.blt_eq.mp hb;omega
  simp only [tlS,this,cond_false]
theorem tl_und {n:Nat}:Tl n und undef:=λ _ _=>rfl
theorem dft_nil {f:FuncId}{n:Nat}{ρ:Env}{ds:List Deferred}(h:(dfT f).ok ρ ds)(ht:Tl n ρ undef):ds=[]:=by
  obtain ⟨N,h⟩:=h
  rcases h (max N n) oqz with ⟨_,h⟩|⟨vs,h,_⟩
  . exact h
  rw [ht _ oqz] at h;cases h
theorem dft_one {f:FuncId}{n:Nat}{ρ:Env}{ds:List Deferred}{vs:Array Value}(h:(dfT f).ok ρ ds)(ht:Tl n ρ (.agg vs)):ds=[{ target:= .fn (.func f) #[],args:=vs }]:=by
  obtain ⟨N,h⟩:=h
  rcases h (max N n) oqz with ⟨h,_⟩|⟨vs',h,h2⟩
  . rw [ht _ oqz] at h;cases h
  rw [ht _ oqz] at h;cases h;exact h2
theorem tl_d {P:Program}{n f:Nat}{ops:Array Oper}{rest:List Oper}{Q:Post}{ρ:Env}{A:SP}{ags:Array Operand}{tys:Array TypeId}{ty:TypeId}{pos:String}{after:Array Edge}{gd:Option (Nat×Bool)}(vs:List Value)(ht:Tl n ρ undef)
    (hv:ags.toList.map (ev n ρ)=vs) (k: @TL (dfT f) P n ops Q rest (tlS n ρ (.agg vs.toArray)) A) (hw:wantE n ops ρ ⟨none,.defer { callee:= .value (.func f),args:=ags,argTypes:=tys },ty,pos,after,gd⟩=true:=by rfl):
    @TL (dfT f) P n ops Q (⟨none,.defer { callee:= .value (.func f),args:=ags,argTypes:=tys },ty,pos,after,gd⟩::rest) ρ A:=λ g a w ha hs=>by
  unfold wpList
  rw [Vl.want_eq ha,hw,if_pos rfl]
  refine .inl ?_
  unfold Oper.wp
  have he:ags.map (ev n ρ)=vs.toArray:=Array.ext' (by rw [Array.toList_map,hv])
  have hex:(execOp (ev n ρ) ⟨none,.defer { callee:= .value (.func f),args:=ags,argTypes:=tys },ty,pos,after,gd⟩).run P w= .ok (.defer { target:= .fn (.func f) #[],args:=vs.toArray }) w:=by
    simp only [execOp,resolve,he,ev,Deferred.ofValue]
    rw [run_bind (w':=w) (a:=⟨.fn (.func f) #[],#[]++vs.toArray⟩) (by rfl)]
    simp [pure,Sem.run]
  rw [ha.eval,hex,Oper.upon_defer]
  obtain ⟨h1,h2,h3⟩:=agr_p ha
  have hA: @Agr (dfT f) n (tlS n ρ (.agg vs.toArray)) { a with defers:={ target:= .fn (.func f) #[],args:=vs.toArray }::a.defers }:= @Agr.mk (dfT f) _ _ _ (by
    show (dfT f).ok _ (_::a.defers)
    rw [dft_nil h1 ht]
    exact ⟨n,λ t ht=> .inr ⟨_,tl_tls t ht,rfl⟩⟩) h2 λ t ht=>by
    have:=Nat.blt_eq.mpr ht
    simp only [tlS,this,cond_true]
    exact h3 t ht
  exact k g _ w hA hs
def DFn (P:Program)(f:FuncId)(args:Array Value)(A:SP)(Q:Value->SP->Prop):Prop:=
  ∀g w,sat g w A->CallsD P f args .returning w λ e u' w'=>u'= .returning/\∃v B,e= .returned v/\ Q v B/\ sat g w' B
theorem DFn.mono {P:Program}{f:FuncId}{args:Array Value}{A:SP}{Q Q':Value->SP->Prop}(h:DFn P f args A Q)(k:∀v B,Q v B->Q' v B):DFn P f args A Q':=
  λ g w hs=>(h g w hs).mono λ _ _ _ ⟨e,v,B,e2,q,s⟩=>⟨e,v,B,e2,k v B q,s⟩
theorem dfn_enterW {P:Program}{f:FuncId}{fn:Func}{c:Code}{args:List Value}{A:SP}{Q:Value->SP->Prop}{n:Nat}(hf:P.funcs[f]? =some fn)(hb:fn.body=some c)
    (hn:fn.ntmps=n) (hle:args.length<=n) (h:TC P n c (retW P n fn Q) (argEnv und 0 args) A):DFn P f args.toArray A Q:=λ g w hs=>by
  refine callsD_of_wp hf hb (wp_mono (h g _ w (agr_enter hn hle rfl) hs) ?_);rintro e a' w' ⟨_,ρ',A',ha',hs',hq⟩
  cases e with
  |normal=>
    obtain ⟨v,B,hr,hi,hQ⟩:=hq;exact ⟨ha'.df,v,hr g a' w' ha' hs',v,B,rfl,hQ,hi g w' hs'⟩
  |ret=>
    obtain ⟨v,B,hr,hi,hQ⟩:=hq;exact ⟨ha'.df,v,hr g a' w' ha' hs',v,B,rfl,hQ,hi g w' hs'⟩
  |_=>exact hq.elim
def retD (P:Program)(n:Nat)(fn:Func)(d:FuncId)(Q:Value->SP->Prop):Post
  | .ret,ρ,A| .normal,ρ,A=>(Tl n ρ undef/\∃v A',@Res (dfT d) P n fn ρ A v/\ (∀g w,sat g w A->sat g w A')/\ Q v A')∨
      ∃vs,Tl n ρ (.agg vs)/\ DFn P d vs A λ _ B=>∃v A',@Res (dfT d) P n fn ρ B v/\ (∀g w,sat g w B->sat g w A')/\ Q v A'
  |_,_,_=>False
theorem fn_enterD {P:Program}{f d:FuncId}{fn:Func}{c:Code}{args:List Value}{A:SP}{Q:Value->SP->Prop}{n:Nat}(hf:P.funcs[f]? =some fn)(hb:fn.body=some c)
    (hn:fn.ntmps=n) (hle:args.length<=n) (hd:bodyB P d=true) (h0:Tl n (argEnv und 0 args) undef) (h: @TC (dfT d) P n c (retD P n fn d Q) (argEnv und 0 args) A):Fn P f args.toArray A Q:=λ g w hs=>by
  refine calls_of_wp_defers hf hb (wp_mono (h g _ w (agr_enter hn hle ⟨n,λ t ht=> .inl ⟨h0 t ht,rfl⟩⟩) hs) ?_);rintro e a' w' ⟨_,ρ',A',ha',hs',hq⟩
  have fin:retD P n fn d Q .ret ρ' A'->Leaves P fn a'.tmps (λ e w'=>∃v B,e= .returned v/\ Q v B/\ sat g w' B) a'.defers .returning w':=by
    rintro (⟨ht,v,B,hr,hi,hQ⟩|⟨vs,ht,hD⟩)
    . rw [dft_nil (agr_p ha').1 ht]
      exact ⟨v,hr g a' w' ha' hs',v,B,rfl,hQ,hi g w' hs'⟩
    rw [dft_one (agr_p ha').1 ht]
    refine leaves_cons (args:=vs) (f:=d) (by simp) ?_ ((hD g w' hs').mono ?_)
    . simp only [invoke]
      rw [run_callFunc hd];simp
    rintro e u' w2 ⟨rfl,_,B,rfl,⟨v,A2,hr,hi,hQ⟩,hs2⟩;exact ⟨v,hr g a' w2 ha' hs2,v,A2,rfl,hQ,hi g w2 hs2⟩
  cases e with
  |normal=>exact fin hq
  |ret=>exact fin hq
  |_=>exact hq.elim
def wpAnyK (P:Program)(ops:Array Oper)(Q:Exit->Act->World->Prop)(S:World->Prop)(k:Nat):Nat->Array Bool->Act->World->Prop
  |0,listed,a,w=>Region.ready .any ops listed=[]/\ Q .normal a w
  |fuel+1,listed,a,w=>
    (Region.ready .any ops listed=[]->Q .normal a w)∧
    ∀i∈Region.ready .any ops listed,wpOp P ops Q i (λ a' w'=>((listed.setIfInBounds i true).getD k true=false->S w')/\ wpAnyK P ops Q S k fuel (listed.setIfInBounds i true) a' w') a w
def chB (ops:Array Oper)(listed:Array Bool)(i k:Nat)(ch:List Nat):Bool:=
  !ch.contains i&&ch.contains k&&ch.all λ p=> !listed.getD p true&&match ops[p]? with
    |some o=>o.after.any λ e=>Region.binds .any e&&(e.on==i||ch.contains e.on)
    |none=>false
section
variable {P:Program} {ops:Array Oper} {Q:Exit->Act->World->Prop} {S S2:World->Prop} {k:Nat}
theorem wpAny_of_K:∀ (fuel:Nat) (listed:Array Bool) (a:Act) (w:World),wpAnyK P ops Q S k fuel listed a w->wpAny P .any ops Q fuel listed a w
  |0,_,_,_,h=>h
  |fuel+1,_,_,_,h=>⟨h.1,λ i hi=>wpOp_mono (λ a' w' h'=>wpAny_of_K fuel _ a' w' h'.2) (h.2 i hi)⟩
theorem set_tt {listed:Array Bool}{i k:Nat}(h:listed.getD k true=true):(listed.setIfInBounds i true).getD k true=true:=by
  by_cases e:i=k
  . subst e;rw [Array.getD_eq_getD_getElem?,Array.getElem?_setIfInBounds]
    simp only [if_true]
    split<;>rfl
  rw [getD_set_ne true e];exact h
theorem wpAnyK_of_H:∀ (fuel:Nat) (listed:Array Bool) (a:Act) (w:World),listed.getD k true=true->wpAnyH P .any ops Q S2 fuel listed a w->wpAnyK P ops Q S k fuel listed a w
  |0,_,_,_,_,h=>h
  |fuel+1,_,_,_,hk,h=>⟨h.1,λ i hi=>wpOp_mono (λ a' w' h'=>⟨λ h9=>(by rw [set_tt hk] at h9;cases h9),wpAnyK_of_H fuel _ a' w' (set_tt hk) h'.2⟩) (h.2 i hi)⟩
theorem wpAnyK_first {i:Nat}{oi:Oper}{v:Value}{ch:List Nat}(hi:ops[i]? =some oi)(hsel:∀ (j:Nat) (o:Oper) cs b,ops[j]? =some o->o.op≠ .select cs b)
    (hQ:∀c a w,Q (.panic c) (a.put oi.dst v) w->Q (.panic c) a w) (hic:i∉ch) (hkc:k∈ch) (hed:∀p∈ch,∃o,ops[p]? =some o/\∃e∈o.after,Region.binds .any e=true/\ (e.on=i∨e.on∈ch)):
    ∀ (fuel:Nat) (listed:Array Bool) (a:Act) (w:World),
      (∀j oj,ops[j]? =some oj->j≠i->listed.getD j true=false->(∀e∈oj.after,Region.binds .any e=true->e.on≠i)->oi.apart ops oj=true)→
      i∈Region.ready .any ops listed->(∀p∈ch,listed.getD p true=false)->YieldsIf P ops S oi v a->S w→
      wpAnyK P ops Q S k fuel (listed.setIfInBounds i true) (a.put oi.dst v) w->wpAnyK P ops Q S k (fuel+1) listed a w:=by
  intro fuel
  induction fuel with
  |zero=>
    intro listed a w _ hr _ hy hS H;refine ⟨λ h=>(by rw [h] at hr;cases hr),λ j hj=> ?_⟩
    by_cases hji:j=i
    . subst hji;exact hy.wpOp hi hS ⟨λ _=>hS,H⟩
    have:=ready_mono hj hji;rw [H.1] at this
    cases this
  |succ fuel ih=>
    intro listed a w hfree hr hch hy hS H;refine ⟨λ h=>(by rw [h] at hr;cases hr),λ j hj=> ?_⟩
    by_cases hji:j=i
    . subst hji;exact hy.wpOp hi hS ⟨λ _=>hS,H⟩
    have h1:=H.2 j (ready_mono hj hji);obtain ⟨hjun,oj,hoj,hall⟩:=mem_ready.1 hj;have h0:=(mem_ready.1 hr).1
    have off:∀q,listed.getD q true=false->listed.getD q false=true->False:=λ q h0 h1=>by
      rcases Nat.lt_or_ge q listed.size with h'|h'
      . simp [h'] at h0 h1;rw [h0] at h1;cases h1
      simp [Array.getElem?_eq_none h'] at h1
    have hnot:∀e∈oj.after,Region.binds .any e=true->e.on≠i:=λ e he hb heq=>off i h0 (heq▸hall e he hb)
    have hjc:j∉ch:=λ hm=>by
      obtain ⟨o,ho,e,he,hb,he2⟩:=hed j hm;rw [hoj] at ho;cases ho
      rcases he2 with he2|he2
      . exact hnot e he hb he2
      exact off _ (hch _ he2) (hall e he hb)
    have hjk:j≠k:=λ e=>hjc (e▸hkc)
    have hik:i≠k:=λ e=>hic (e▸hkc)
    have h2:=wpOp_putIf hoj (hfree j oj hoj hji hjun hnot) (λ cs b=>hsel i oi cs b hi) (λ cs b=>hsel j oj cs b hoj) hQ hy h1
    have hfree':∀k ok,ops[k]? =some ok->k≠i->(listed.setIfInBounds j true).getD k true=false→
        (∀e∈ok.after,Region.binds .any e=true->e.on≠i)->oi.apart ops ok=true:=λ k ok hk hki hun hno=>by
      refine hfree k ok hk hki ?_ hno
      by_cases hjk:j=k
      . subst hjk;exact hjun
      rw [getD_set_ne true hjk] at hun;exact hun
    have hch':∀p∈ch,(listed.setIfInBounds j true).getD p true=false:=λ p hp=>by
      rw [getD_set_ne true (λ e=>hjc (by rw [e];exact hp))];exact hch p hp
    refine wpOp_mono (λ a' w' h3=> ?_) h2;have hS':S w':=h3.2.1 (by rw [getD_set_ne true hjk,getD_set_ne true hik];exact hch k hkc);refine ⟨λ _=>hS',ih (listed.setIfInBounds j true) a' w' hfree' (ready_mono hr (Ne.symm hji)) hch' h3.1 hS' ?_⟩;rw [Array.setIfInBounds_comm _ _ hji]
    exact h3.2.2
theorem wpAnyK_firstP {i:Nat}{oi:Oper}{v:Value}(hi:ops[i]? =some oi)(hsel:∀ (j:Nat) (o:Oper) cs b,ops[j]? =some o->o.op≠ .select cs b)
    (hQ:∀c a w,Q (.panic c) (a.put oi.dst v) w->Q (.panic c) a w) (hik:i≠k):
    ∀ (fuel:Nat) (listed:Array Bool) (a:Act) (w:World),
      (∀j oj,ops[j]? =some oj->j≠i->listed.getD j true=false->(∀e∈oj.after,Region.binds .any e=true->e.on≠i)->oi.apart ops oj=true)→
      i∈Region.ready .any ops listed->YieldsIf P ops (λ _=>True) oi v a->(listed.getD k true=false->S w)→
      wpAnyK P ops Q S k fuel (listed.setIfInBounds i true) (a.put oi.dst v) w->wpAnyK P ops Q S k (fuel+1) listed a w:=by
  intro fuel
  induction fuel with
  |zero=>
    intro listed a w _ hr hy hS H;refine ⟨λ h=>(by rw [h] at hr;cases hr),λ j hj=> ?_⟩
    by_cases hji:j=i
    . subst hji;exact hy.wpOp hi trivial ⟨λ h=>hS (by rw [getD_set_ne true hik] at h;exact h),H⟩
    have:=ready_mono hj hji;rw [H.1] at this
    cases this
  |succ fuel ih=>
    intro listed a w hfree hr hy hS H;refine ⟨λ h=>(by rw [h] at hr;cases hr),λ j hj=> ?_⟩
    by_cases hji:j=i
    . subst hji;exact hy.wpOp hi trivial ⟨λ h=>hS (by rw [getD_set_ne true hik] at h;exact h),H⟩
    have h1:=H.2 j (ready_mono hj hji);obtain ⟨hjun,oj,hoj,hall⟩:=mem_ready.1 hj;have h0:=(mem_ready.1 hr).1
    have hnot:∀e∈oj.after,Region.binds .any e=true->e.on≠i:=λ e he hb heq=>by
      have h1:=hall e he hb;rw [heq] at h1
      rcases Nat.lt_or_ge i listed.size with h'|h'
      . simp [h'] at h0 h1;rw [h0] at h1;cases h1
      simp [Array.getElem?_eq_none h'] at h1
    have h2:=wpOp_putIf hoj (hfree j oj hoj hji hjun hnot) (λ cs b=>hsel i oi cs b hi) (λ cs b=>hsel j oj cs b hoj) hQ hy h1
    have hfree':∀k ok,ops[k]? =some ok->k≠i->(listed.setIfInBounds j true).getD k true=false→
        (∀e∈ok.after,Region.binds .any e=true->e.on≠i)->oi.apart ops ok=true:=λ k ok hk hki hun hno=>by
      refine hfree k ok hk hki ?_ hno
      by_cases hjk:j=k
      . subst hjk;exact hjun
      rw [getD_set_ne true hjk] at hun;exact hun
    refine wpOp_mono (λ a' w' h3=> ?_) h2
    have hS':(listed.setIfInBounds j true).getD k true=false->S w':=λ h=>h3.2.1 (by
      rw [Array.setIfInBounds_comm _ _ (Ne.symm hji),getD_set_ne true hik];exact h)
    refine ⟨hS',ih (listed.setIfInBounds j true) a' w' hfree' (ready_mono hr (Ne.symm hji)) h3.1 hS' ?_⟩;rw [Array.setIfInBounds_comm _ _ hji]
    exact h3.2.2
theorem wpAnyK_take {i:Nat}{oi:Oper}{v:Value}{ch:List Nat}{fuel:Nat}{listed:Array Bool}{a:Act}{w:World}(hi:ops[i]? =some oi)
    (hs:Region.noSelect ops=true) (hf:Region.free .any ops listed i=true) (hr:(Region.ready .any ops listed).contains i=true) (hc:chB ops listed i k ch=true)
    (hQ:∀c a w,Q (.panic c) (a.put oi.dst v) w->Q (.panic c) a w) (hy:YieldsIf P ops S oi v a) (hS:S w)
    (h:wpAnyK P ops Q S k fuel (listed.setIfInBounds i true) (a.put oi.dst v) w):wpAnyK P ops Q S k (fuel+1) listed a w:=by
  unfold chB at hc
  simp only [Bool.and_eq_true,Bool.not_eq_true',List.all_eq_true] at hc
  obtain ⟨⟨h1,h2⟩,h3⟩:=hc;refine wpAnyK_first hi (Region.noSelect_spec hs) hQ (ch:=ch) (λ hm=> ?_) (by simpa using h2) (λ p hp=> ?_) fuel listed a w (Region.free_spec hi hf) (by simpa using hr) (λ p hp=>(h3 p hp).1) hy hS h
  . rw [List.contains_iff_mem.2 hm] at h1;cases h1
  have h4:=(h3 p hp).2
  cases ho:ops[p]? with
  |none=>rw [ho] at h4;cases h4
  |some o=>
    rw [ho] at h4
    obtain ⟨e,he,hb⟩:=Array.any_eq_true'.1 h4
    simp only [Bool.and_eq_true,Bool.or_eq_true,beq_iff_eq,List.contains_iff_mem] at hb
    exact ⟨o,rfl,e,he,hb.1,hb.2⟩
end
section
variable {δ:Df} {P:Program} {n:Nat} {Q:Post} {ρ:Env} {A S S2:SP} {ops:Array Oper} {o:Oper} {k:Nat}
def TU [δ:Df](P:Program)(n:Nat)(ops:Array Oper)(Q:Post)(S:SP)(k:Nat)(fuel:Nat)(listed:Array Bool)(ρ:Env)(A:SP):Prop:=
  ∀g a w,Agr n ρ a->sat g w A->sat g w S->wpAnyK P ops (lift g n Q) (λ w=>sat g w S) k fuel listed a w
theorem tc_regk {id:Nat}{l:List Oper}(k:Nat)(hm:P.follows .mixedOrders=true)(h:TU P n l.toArray Q A k l.length (Array.replicate l.length false) ρ A):TC P n (.region id l.toArray true) Q ρ A:=λ g a w ha hs=>
  have hs':sat g { w with drawn:=w.drawn+1 } A:=hs.draw rfl rfl rfl rfl;have h1:=h g a { w with drawn:=w.drawn+1 } ha hs' hs'
  wp_region_any hm (wpAny_of_K _ _ _ _ (by simpa using h1))
theorem tu_take {fuel i:Nat}{listed listed':Array Bool}{v:Value}(ch:List Nat)(hi:ops[i]? =some o)(hs':Region.noSelect ops=true)(hf:Region.free .any ops listed i=true)(hr:(Region.ready .any ops listed).contains i=true)(hc:chB ops listed i k ch=true)
    (hl:listed.setIfInBounds i true=listed') (hw:wantE n ops ρ o=true) (hv:OpV P n ρ S o v) (K:TU P n ops Q S k fuel listed' (put ρ o.dst v) A):TU P n ops Q S k (fuel+1) listed ρ A:=λ g a w ha hs hS=>
  wpAnyK_take hi hs' hf hr hc (λ c a w h=>absurd h.1 (by simp [okE])) (.inl ⟨by rw [want_eq ha,hw],λ w' h'=>by
    rw [ha.eval];exact hv g w' h'⟩) hS (by rw [hl];exact K g _ w (ha.put _ _) hs hS)
theorem tu_pure {fuel i:Nat}{listed listed':Array Bool}{v:Value}(hi:ops[i]? =some o)(hs':Region.noSelect ops=true)(hf:Region.free .any ops listed i=true)(hr:(Region.ready .any ops listed).contains i=true)(hik:Nat.beq i k=false)
    (hl:listed.setIfInBounds i true=listed') (hw:wantE n ops ρ o=true) (hv:OpV P n ρ emp o v) (K:TU P n ops Q S k fuel listed' (put ρ o.dst v) A):TU P n ops Q S k (fuel+1) listed ρ A:=λ g a w ha hs hS=>
  wpAnyK_firstP hi (Region.noSelect_spec hs') (λ c a w h=>absurd h.1 (by simp [okE])) (λ e=>by subst e;rw [Nat.beq_refl] at hik;cases hik) fuel listed a w (Region.free_spec hi hf) (by simpa using hr) (.inl ⟨by rw [want_eq ha,hw],λ w' _=>by
    rw [ha.eval]
    exact hv ⟨w'.os,w'.tape,w'.output⟩ w' ⟨rfl,rfl,rfl,_,rfl,λ _ _ _ h=>by cases h⟩⟩) (λ _=>hS) (by rw [hl];exact K g _ w (ha.put _ _) hs hS)
theorem tu_env {fuel:Nat}{listed:Array Bool}{d:Nat}{v:Value}(h:ρ d=v)(K:TU P n ops Q S k fuel listed (upd ρ d v) A):TU P n ops Q S k fuel listed ρ A:=by
  rw [←env_set h] at K;exact K
def OU [δ:Df](P:Program)(n:Nat)(ops:Array Oper)(Q:Post)(S:SP)(k:Nat)(fuel i:Nat)(listed:Array Bool)(ρ:Env)(A:SP):Prop:=
  ∀g a w,Agr n ρ a->sat g w A->sat g w S->wpOp P ops (lift g n Q) i (λ a' w'=>((listed.setIfInBounds i true).getD k true=false->sat g w' S)/\ wpAnyK P ops (lift g n Q) (λ w=>sat g w S) k fuel (listed.setIfInBounds i true) a' w') a w
theorem tu_one {fuel i:Nat}{listed:Array Bool}(hr:Region.ready .any ops listed=[i])(h:OU P n ops Q S k fuel i listed ρ A):TU P n ops Q S k (fuel+1) listed ρ A:=λ g a w ha hs hS=>
  ⟨λ h0=>absurd (hr▸h0) (by simp),λ j hj=>by
    rw [hr,List.mem_singleton] at hj;subst hj;exact h g a w ha hs hS⟩
section
variable {fuel i:Nat} {listed listed':Array Bool}
theorem ou_x {R:Value->SP->Prop}(hi:ops[i]? =some o)(hl:listed.setIfInBounds i true=listed')(hw:wantE n ops ρ o=true)(h:OpX P n ρ A o R)(K:∀v B,R v B->Dr B S/\ TU P n ops Q S k fuel listed' (put ρ o.dst v) B):OU P n ops Q S k fuel i listed ρ A:=λ g a w ha hs hS=>by
  subst hl
  unfold wpOp
  simp only [hi,want_eq ha,hw,if_true]
  refine .inl ?_
  unfold Oper.wp
  obtain ⟨v,w',B,hr,hb,hR⟩:=h g w hs;rw [ha.eval,hr]
  obtain ⟨hd,K⟩:=K v B hR;exact ⟨λ _=>hd.sat _ _ hb,K g _ w' (ha.put _ _) hb (hd.sat _ _ hb)⟩
theorem ou_c {R:Value->SP->Prop}(hi:ops[i]? =some o)(hl:listed.setIfInBounds i true=listed')(hw:wantE n ops ρ o=true)(h:OpC P n ρ A o R)(K:∀v B,R v B->Dr B S/\ TU P n ops Q S k fuel listed' (put ρ o.dst v) B):OU P n ops Q S k fuel i listed ρ A:=λ g a w ha hs hS=>by
  subst hl
  unfold wpOp
  simp only [hi,want_eq ha,hw,if_true]
  refine .inl ?_
  unfold Oper.wp
  obtain ⟨f,args,w',hr,hc⟩:=h g w hs;rw [ha.eval,hr]
  refine hc.mono λ e w'' ⟨v,B,he,hR,hb⟩=> ?_
  subst he;obtain ⟨hd,K⟩:=K v B hR;exact ⟨λ _=>hd.sat _ _ hb,K g _ w'' (ha.put _ _) hb (hd.sat _ _ hb)⟩
theorem uk_c {R:Value->SP->Prop}(S2:SP)(hi:ops[i]? =some o)(hl:listed.setIfInBounds i true=listed')(hk:listed'.getD k true=true)(hw:wantE n ops ρ o=true)(h:OpC P n ρ A o R)(K:∀v B,R v B->Dr B S2/\ TH P n ops Q S2 fuel listed' (put ρ o.dst v) B):OU P n ops Q S k fuel i listed ρ A:=λ g a w ha hs hS=>by
  subst hl
  unfold wpOp
  simp only [hi,want_eq ha,hw,if_true]
  refine .inl ?_
  unfold Oper.wp
  obtain ⟨f,args,w',hr,hc⟩:=h g w hs;rw [ha.eval,hr]
  refine hc.mono λ e w'' ⟨v,B,he,hR,hb⟩=> ?_
  subst he;obtain ⟨hd,K⟩:=K v B hR;exact ⟨λ h9=>(by rw [hk] at h9;cases h9),wpAnyK_of_H _ _ _ _ hk (K g _ w'' (ha.put _ _) hb (hd.sat _ _ hb))⟩
end
end
def payS (l:List (Nat×Hcg)):Nat:=(l.map λ x=>x.2.o.size+x.2.n.size).sum
theorem payS_snoc {l:List (Nat×Hcg)}{i:Nat}(h:i<l.length):payS (l.take (i+1))=payS (l.take i)+(l[i].2.o.size+l[i].2.n.size):=by
  unfold payS;rw [List.take_succ_eq_append_getElem h,List.map_append,List.sum_append];simp
theorem payS_le {l:List (Nat×Hcg)}(h:∀x∈l,(packB x.2).size<=248):payS l<=248*l.length:=by
  induction l with
  |nil=>exact Nat.zero_le _
  |cons x l ih=>
    have h1:=ih λ y hy=>h y (List.mem_cons_of_mem _ hy)
    have h2:=h x (List.mem_cons_self ..);rw [pack_size] at h2
    unfold payS at*
    rw [List.map_cons,List.sum_cons,List.length_cons];omega
attribute [local irreducible] crk crL crc Sl pt ro Dev imgS recS readS recsF rdW rdO rkT Parts rvl recordsS runsL adrF kcl xcl kys runA runsF layF ovF TxA adZ WkA comS conB rootV ptsV
theorem Payload21_c {A R:SP}{C:SP->SP}{X:WkX}{Y:WkY}{T:WkT}{s:DevS}(hc:Ct A (WkA X Y s) R C:=by exact cbqz)(hok:WkOk X Y T (s.ls.length*64))(hb:WkB X s)(ho:s.off=false:=by assumption){r1 r2:Nat}{l1 l2:List (Nat×List (List Nat))}{us rs:List (Nat×Hcg)}(hI:HsI X.n X.ba s T r1 l1 r2 l2 us rs)(hn16:us.length+rs.length<=16){hh:Nat}(hih:Has A hh (cl (hisV X r1 r2) 136)):
    Fn Tryz.prog 65 #[pz hh] A (λ r B=>r= .int .i64 ((payS (us++rs):Nat):Int)/\ A=B):=by
  refine fn_enterW func65 rfl ntmps65 (by simp) ?_;obtain ⟨hb1,hb2,hb3⟩:=id hb;have hul:(us++rs).length=us.length+rs.length:=List.length_append;have hok9:=λ x hx=>(hI.ok x hx).2
  have hpl:=payS_le hok9;refine Zdr ?_;refine tl_c rfl (o_call bd136 rfl (Hread_c (ho:=ho) (hc:=by repeat (first|exact hc|apply ct_left)) (X:=X) (Y:=Y) (T:=T) (s:=s) (hok:=hok) (hb:=hb) (r1:=r1) (r2:=r2) (hI:=hI) (hn16:=hn16) (hih:=hih))) ?_;rintro _ _ ⟨au11,cu11,ar11,cr11,rfl,hl11,rfl⟩;obtain ⟨hl11a,hl11b⟩:=hl11;refine Zf6 ?_;refine Zm ?_;refine Zdd ?_;refine tlm ?_;refine tl_x rfl (o_apR (xs:=hens us) (ys:=hens rs) underlying212 underlying212 sz247 by247 z247 rfl (by decide) (by decide) rfl rfl ctqz sq0z (hens_len rs) hens_one oqz (hens_app us rs).symm) ?_;rintro _ _ ⟨a17,c17,rfl,hc17,rfl⟩;refine tv (o_len underlying212 rfl) ?_;refine Zb8 ?_;refine tc_loop (λ kk ρ BB=>∃ (i:Nat),(i<=us.length+rs.length)/\ kk=us.length+rs.length-i/\ ρ 6= .int .i64 ((payS ((us++rs).take i):Nat):Int)/\ ρ 19=(vn i)/\ ρ 17= .slice a17 (us.length+rs.length) c17/\ ρ 18=(vn (us.length+rs.length))/\ Dr BB (A*Sl 4 (.slice a17 (us.length+rs.length) c17) (us.length+rs.length) (hens (us++rs)))) (m:=us.length+rs.length-(0)) ?_ ?_
  . exact ⟨0,by omega,rfl,by rw [List.take_zero];rfl,rfl,rfl,rfl,drqz⟩
  intro k ρ B hI;obtain ⟨i,hp0,hkk1,hE6,hE19,hE17,hE18,hBA⟩:=hI;refine tc_pre hBA.sat ?_;clear hBA;refine te 6 hE6 ?_;refine te 19 hE19 ?_;refine te 17 hE17 ?_;refine te 18 hE18 ?_;refine Zcg ?_;refine tc_cond rfl (λ h=> ?_) (λ h=> ?_)
  . have hi:i<us.length+rs.length:=(by first|omega|(simp at h;omega));have hi2:i<(us++rs).length:=(by omega);obtain ⟨x,hx⟩:∃x,(us++rs)[i]=x:=⟨_,rfl⟩;have hat:((hens (us++rs)).drop (i*4)).take 4=Hen x:=(by rw [hens_at hi2,hx]);have hps:=payS_snoc hi2;rw [hx] at hps
    have hpl2:=payS_le (l:=(us++rs).take (i+1)) λ y hy=>hok9 y (List.mem_of_mem_take hy)
    rw [List.length_take] at hpl2
    refine Zd5 ?_;refine tv (o_ixP (j:=i) underlying212 sz247 rfl rfl hi (nn_rs (xs:=hens (us++rs)) sq0z (λ _=>by rw [hens_len];omega))) ?_;refine tv (o_ldPN (vs:=Hen x) a247 sz247 rfl sq0z hat rfl (by decide)) ?_;refine tl_x rfl (o_alloc (l:=[.int .u32 0,.int .i64 0,.string ⟨#[]⟩,.string ⟨#[]⟩]) z247 rfl) ?_;rintro _ _ ⟨b8,rfl,rfl⟩;refine tl_u rfl (o_stUN (l':=Hen x) rfl upqz sz247 rfl rfl rfl (by exact Nat.le_refl 4) rfl) ?_;refine nq ?_;refine Zbq ?_;refine tv (o_fieldAddr (o:=1) underlying247 rfl rfl sz23 rfl) ?_;refine Zce ?_;refine tl_env (d:=26) (v:= .string x.2.o) (rfl) ?_;refine tv (o_lenS underlying9 rfl) ?_;refine tv (o_fieldAddr (o:=1) underlying247 rfl rfl sz23 rfl) ?_;refine Zcf ?_;refine tl_env (d:=30) (v:= .string x.2.n) (rfl) ?_;refine tv (o_lenS underlying9 rfl) ?_;refine tv (o_addI rfl rfl oqz) ?_;refine tv (o_addI rfl rfl oqz) ?_;refine Zep ?_;exact ⟨_,by omega,i+1,by omega,rfl,by show _=Value.int .i64 ((payS ((us++rs).take (i+1)):Nat):Int);rw [hps];rfl,rfl,rfl,rfl,drqz⟩
  obtain rfl:i=us.length+rs.length:=by first|omega|(simp at h;omega)
  rw [List.take_of_length_le oqz]
  refine Zhk ?_;exact ⟨.int .i64 ((payS (us++rs):Nat):Int),A,res1 rfl rfl,Dr.sat drqz,rfl,rfl⟩
theorem drop21_c {A R:SP}{C:SP->SP}{X:WkX}{Y:WkY}{T:WkT}{s:DevS}(hc:Ct A (WkA X Y s) R C:=by exact cbqz)(hok:WkOk X Y T (s.ls.length*64))(hb:WkB X s)(ho:s.off=false:=by assumption){r1 r2:Nat}{l1 l2:List (Nat×List (List Nat))}{es:List (Nat×Hcg)}{bl:List (Nat×List Nat)}{a:Option Addr}{m c hh:Nat}(hG:HsG X.n X.ba s T r1 l1 r2 l2 (es.map blC++bl))(hr:Rs R a (hens es))(hm:es.length=m)(hm16:m<=16)(hih:Has R hh (cl (hisV X r1 r2) 136)):
    Fn Tryz.prog 139 #[pz hh,.slice a m c] A (λ r B=>∃Y2 T2,r= .int .i64 0/\ HsG X.n X.ba s T2 r1 l1 r2 l2 bl/\ WkOk X Y2 T2 (s.ls.length*64)/\ B=C (WkA X Y2 s)):=by
  refine fn_enterW func139 rfl ntmps139 (by simp) ?_;obtain ⟨hb1,hb2,hb3⟩:=id hb;obtain ⟨rfl,hC⟩:=hc;refine Zdd ?_;refine tv (o_len underlying212 rfl) ?_;refine Zb8 ?_;refine tc_loop (λ kk ρ BB=>∃ (i:Nat) (Yi:WkY) (Ti:WkT),(i<=m)/\ (HsG X.n X.ba s Ti r1 l1 r2 l2 ((es.drop i).map blC++bl))/\ (WkOk X Yi Ti (s.ls.length*64))/\ kk=m-i/\ ρ 10=(vn i)/\ ρ 0=(pz hh)/\ ρ 8= .slice a m c/\ ρ 9=(vn m)/\ Dr BB (R*WkA X Yi s)) (m:=m-(0)) ?_ ?_
  . exact ⟨0,Y,T,Nat.zero_le _,hG,hok,rfl,rfl,rfl,rfl,rfl,drqz⟩
  intro k ρ B hI;obtain ⟨i,Yi,Ti,hp0,hp1,hp2,hkk1,hE10,hE0,hE8,hE9,hBA⟩:=hI;refine tc_pre hBA.sat ?_;clear hBA;refine te 10 hE10 ?_;refine te 0 hE0 ?_;refine te 8 hE8 ?_;refine te 9 hE9 ?_;refine Zcg ?_;refine tc_cond rfl (λ h=> ?_) (λ h=> ?_)
  . have hi:i<m:=(by first|omega|(simp at h;omega));have hi2:i<es.length:=(by omega);obtain ⟨x,hx⟩:∃x,es[i]=x:=⟨_,rfl⟩;have hat:((hens es).drop (i*4)).take 4=Hen x:=(by rw [hens_at hi2,hx]);rw [List.drop_eq_getElem_cons hi2,hx,List.map_cons,List.cons_append] at hp1
    have hgx:=hp1.get (List.mem_cons_self ..);have hxn:=hp1.blt (blC x) (List.mem_cons_self ..);have hxn:x.1<X.n:=hxn;have hG9:=hp1.give1 (b1:=[]);rw [List.nil_append] at hG9
    refine Zd5 ?_;refine tv (o_ixP (j:=i) underlying212 sz247 rfl rfl hi (nn_rs (xs:=hens es) (by repeat (first|exact hr|apply Rs.left)) (λ _=>by rw [hens_len];omega))) ?_;refine tv (o_ldPN (vs:=Hen x) a247 sz247 rfl (by repeat (first|exact hr|apply Rs.left)) hat rfl (by decide)) ?_;refine tl_x rfl (o_alloc (l:=[.int .u32 0,.int .i64 0,.string ⟨#[]⟩,.string ⟨#[]⟩]) z247 rfl) ?_;rintro _ _ ⟨b6,rfl,rfl⟩;refine tl_u rfl (o_stUN (l':=Hen x) rfl upqz sz247 rfl rfl rfl (by exact Nat.le_refl 4) rfl) ?_;refine Zhq ?_;refine tc_regh (S:=R*pt b6 (cl (Hen x) 247)) mo drqz ?_
    show TH _ _ _ _ _ 8 (Array.replicate 8 false) _ _
    refine Zdl ?_;refine tm 3 rfl kqz rfl (o_load p46 rfl (by repeat (first|exact hih|exact has_here|apply has_left)) rfl) ?_;refine th_env (d:=17) (v:= .pointer (some ⟨X.w,0,none⟩)) (rfl) ?_;refine tm 4 rfl kqz rfl (o_fieldAddr (o:=0) underlying247 rfl rfl sz53 rfl) ?_;refine tm 5 rfl kqz rfl (o_load p53 rfl hsqz rfl) ?_;refine th_env (d:=19) (v:= .int .u32 ((x.1+1:Nat):Int)) (rfl) ?_;refine th_one (i:=6) kqz ?_;refine oh_c rfl rfl rfl (o_call bd100 rfl (DropB_c (ho:=ho) (X:=X) (Y:=Yi) (T:=Ti) (s:=s) (hok:=hp2) (hb:=hb) (ref:=x.1+1) (hr1:=by omega))) ?_;rintro _ _ ⟨t20,l20,e20,Y20,hw20,rfl,hok20,rfl⟩;refine ⟨by repeat (first|with_reducible exact dr_refl|apply dr_keep|apply dr_drop), ?_⟩;rw [show whS (usedB Ti) (conB Ti s X.ba) (x.1+1)=_ from hgx] at hw20
    obtain ⟨rfl,h9⟩:=Prod.mk.inj hw20;obtain ⟨rfl,rfl⟩:=Prod.mk.inj h9;refine tm 7 rfl kqz rfl (o_assign wqz) ?_;refine Zbs ?_;refine Zb ?_;refine Zz ?_;intro h;refine Zgh ?_;exact ⟨_,by omega,i+1,Y20,_,by omega,hG9,hok20,rfl,rfl,rfl,rfl,rfl,drqz⟩
  obtain rfl:i=m:=by first|omega|(simp at h;omega)
  rw [List.drop_of_length_le oqz,List.map_nil,List.nil_append] at hp1
  refine Zk ?_;refine Zcv ?_;exact ⟨.int .i64 0,C (WkA X Yi s),res1 rfl rfl,(λ g w h=>by rw [hC];exact Dr.sat (A':=R*WkA X Yi s) drqz g w h),Yi,Ti,rfl,hp1,hp2,rfl⟩
theorem Zed {p r:Prop}(k:r)(h:Kq r->p:=by intro k;refine tv (o_nilCheck rfl) ?_;refine tv (o_fieldAddr (o:=1) underlying136 rfl rfl sz134 rfl) ?_;exact k.o):p:=h ⟨k⟩
theorem Drop21_c {A R:SP}{C:SP->SP->SP}{X:WkX}{Y:WkY}{T:WkT}{s:DevS}{r1 r2 hh:Nat}(hc:Ct2 A (WkA X Y s) (pt hh (cl (hisV X r1 r2) 136)) R C:=by repeat (first|with_reducible exact ct2_r ctqz|with_reducible exact ct2_l ctqz|apply ct2_left))(hok:WkOk X Y T (s.ls.length*64))(hb:WkB X s)(ho:s.off=false:=by assumption){l1 l2:List (Nat×List (List Nat))}{us rs:List (Nat×Hcg)}(hI:HsI X.n X.ba s T r1 l1 r2 l2 us rs)(hn16:us.length+rs.length<=16):
    Fn Tryz.prog 48 #[pz hh] A (λ r B=>∃Y2 T2,r= .int .i64 0/\ HsG X.n X.ba s T2 0 [] 0 [] []/\ WkOk X Y2 T2 (s.ls.length*64)/\ B=C (WkA X Y2 s) (pt hh (cl (hisV X 0 0) 136))):=by
  refine fn_enterW func48 rfl ntmps48 (by simp) ?_;obtain ⟨hb1,hb2,hb3⟩:=id hb;obtain ⟨rfl,hC⟩:=hc;have hul:(us++rs).length=us.length+rs.length:=List.length_append;obtain ⟨hR1,hR2⟩:=hI.g.ref;have hG0:=hI.g;rw [←List.append_nil ((us++rs).map blC)] at hG0
  refine Zdr ?_;refine tl_c rfl (o_call bd136 rfl (Hread_c (ho:=ho) (X:=X) (Y:=Y) (T:=T) (s:=s) (hok:=hok) (hb:=hb) (r1:=r1) (r2:=r2) (hI:=hI) (hn16:=hn16) (hih:=(by repeat (first|exact hih|exact has_here|apply has_left))))) ?_;rintro _ _ ⟨au7,cu7,ar7,cr7,rfl,hl7,rfl⟩;obtain ⟨hl7a,hl7b⟩:=hl7;refine Zf6 ?_;refine Zbo ?_;refine Zz ?_;intro h;refine Zc4 ?_;refine Zv ?_;refine tl_x rfl (o_apR (xs:=hens us) (ys:=hens rs) underlying212 underlying212 sz247 by247 z247 rfl (by decide) (by decide) rfl rfl ctqz sq0z (hens_len rs) hens_one oqz (hens_app us rs).symm) ?_;rintro _ _ ⟨a17,c17,rfl,hc17,rfl⟩;refine tl_c rfl (o_call bd139 rfl (drop21_c (ho:=ho) (X:=X) (Y:=Y) (T:=T) (s:=s) (hok:=hok) (hb:=hb) (hG:=hG0) (hr:=(by repeat (first|with_reducible exact rs_sl|apply Rs.left))) (hm:=hul) (hm16:=hn16) (hih:=(by repeat (first|exact hih|exact has_here|apply has_left))))) ?_;rintro _ _ ⟨Y18,T18,rfl,hG18,hok18,rfl⟩;refine Zha ?_;intro h;refine Ze ?_;refine Zb1 ?_;refine tc_regh (S:=R*pt hh (cl (hisV X r1 r2) 136)) mo drqz ?_
  show TH _ _ _ _ _ 11 (Array.replicate 11 false) _ _
  refine Zdl ?_;refine tm 3 rfl kqz rfl (o_load p46 rfl (by repeat (first|exact hih|exact has_here|apply has_left)) rfl) ?_;refine th_env (d:=25) (v:= .pointer (some ⟨X.w,0,none⟩)) (rfl) ?_;refine Zeg ?_;refine tm 7 rfl kqz rfl (o_fieldAddr (o:=0) underlying134 rfl rfl sz53 rfl) ?_;refine tm 8 rfl kqz rfl (o_load p53 rfl (by repeat (first|exact hih|exact has_here|apply has_left)) rfl) ?_;refine th_env (d:=30) (v:= .int .u32 ((r1:Nat):Int)) (rfl) ?_;refine th_one (i:=9) kqz ?_;refine oh_c rfl rfl rfl (o_call bd37 rfl (Drop15_c (ho:=ho) (X:=X) (Y:=Y18) (T:=T18) (s:=s) (hok:=hok18) (hb:=hb) (ref:=r1) (cell:=4) (hr1:=by omega) (hcell:=by decide))) ?_;rintro _ _ ⟨l31,e31,Y31,hp31,rfl,hok31,rfl⟩;refine ⟨by repeat (first|with_reducible exact dr_refl|apply dr_keep|apply dr_drop), ?_⟩;rw [partsR_tbl hG18.t1 (by decide) (by have:=tbl_few hG18.t1 hG18.lt;omega)] at hp31
  obtain ⟨rfl,rfl⟩:=Prod.mk.inj hp31;have hG31:=hG18.dropt.swap;refine tm 10 rfl kqz rfl (o_assign wqz) ?_;refine Zbs ?_;refine Zb ?_;refine Zz ?_;intro h;refine Ze ?_;refine Zb1 ?_;refine tc_regh (S:=R*pt hh (cl (hisV X r1 r2) 136)) mo drqz ?_
  show TH _ _ _ _ _ 11 (Array.replicate 11 false) _ _
  refine Zdl ?_;refine tm 3 rfl kqz rfl (o_load p46 rfl (by repeat (first|exact hih|exact has_here|apply has_left)) rfl) ?_;refine th_env (d:=38) (v:= .pointer (some ⟨X.w,0,none⟩)) (rfl) ?_;refine Zeg ?_;refine tm 7 rfl kqz rfl (o_fieldAddr (o:=1) underlying134 rfl rfl sz53 rfl) ?_;refine tm 8 rfl kqz rfl (o_load p53 rfl (by repeat (first|exact hih|exact has_here|apply has_left)) rfl) ?_;refine th_env (d:=43) (v:= .int .u32 ((r2:Nat):Int)) (rfl) ?_;refine th_one (i:=9) kqz ?_;refine oh_c rfl rfl rfl (o_call bd37 rfl (Drop15_c (ho:=ho) (X:=X) (Y:=Y31) (s:=s) (hok:=hok31) (hb:=hb) (ref:=r2) (cell:=4) (hr1:=by omega) (hcell:=by decide))) ?_;rintro _ _ ⟨l44,e44,Y44,hp44,rfl,hok44,rfl⟩;refine ⟨by repeat (first|with_reducible exact dr_refl|apply dr_keep|apply dr_drop), ?_⟩;rw [partsR_tbl hG31.t1 (by decide) (by have:=tbl_few hG31.t1 hG31.lt;omega)] at hp44
  obtain ⟨rfl,rfl⟩:=Prod.mk.inj hp44;have hG44:=hG31.dropt;refine tm 10 rfl kqz rfl (o_assign wqz) ?_;refine Zbs ?_;refine Zb ?_;refine Zz ?_;intro h;refine Zb9 ?_;refine tv (o_buildS (l:=[.int .u32 0,.int .u32 0]) underlying134 z134 (pl134 underlying134) rfl rfl) ?_;refine Zed ?_;refine tl_u rfl (o_stUN (l':=hisV X 0 0) rfl upqz sz134 rfl rfl rfl (by show 1+2<=3;decide) rfl) ?_;refine nq ?_;refine Zcv ?_;exact ⟨.int .i64 0,C (WkA X Y44 s) (pt hh (cl (hisV X 0 0) 136)),res1 rfl rfl,(λ g w h=>by rw [hC];exact Dr.sat (A':=R*WkA X Y44 s*pt hh (cl (hisV X 0 0) 136)) drqz g w h),Y44,_,rfl,hG44,hok44,rfl⟩
theorem keep21_d {A:SP}{hh eb:Nat}{v0 v1 v2 u1 u2:Value}(hih:Has A hh (cl [v0,v1,v2] 136))(he:Has A eb (cl [.int .i64 0] 24)):
    DFn Tryz.prog 138 #[pz hh,.agg #[u1,u2],pz eb] A (λ r B=>A=B):=by
  refine dfn_enterW (args:=[pz hh,.agg #[u1,u2],pz eb]) func138 rfl ntmps138 (by simp) ?_;refine sr ?_;refine tl_x rfl (o_box rfl (l:=[u1,u2]) rfl) ?_;rintro _ _ ⟨b4,rfl,rfl⟩;refine Zhq ?_;refine tc_regq mo kqz ?_;refine Zby ?_;refine ql_v rfl (o_load p24 rfl (by repeat (first|exact he|apply has_left)) rfl) ?_;refine ql_v rfl (o_nei rfl rfl) ?_;refine ql_v rfl (o_move wqz) ?_;refine ql_bool (d:=10) rfl dbq (sbq ?_);intro h;refine Zcy ?_;refine Zq ?_;refine ql_v rfl (o_pick_f rfl wqz) ?_;refine Zd6 ?_;refine tc_cond_f rfl ?_;refine tc_skip ?_;exact ⟨.tuple #[],A,res0 rfl,Dr.sat drqz,rfl⟩
end Go.Vl

namespace Go.Vl
open Go Go.Proofs Go.Proofs.Tryz
def movS (us rs:List (Nat×Hcg)):List (Nat×Hcg)×List (Nat×Hcg)×Hcg×Int:=match us.getLast? with
  |none=>(us,rs,⟨0,⟨#[]⟩,⟨#[]⟩⟩,210)
  |some x=>(us.dropLast,rs++[x],x.2,0)
attribute [local irreducible] crk crL crc Sl pt ro Dev imgS recS readS recsF rdW rdO rkT Parts rvl recordsS runsL adrF kcl xcl kys runA runsF layF ovF TxA adZ WkA comS conB rootV ptsV
theorem Zbh {p r:Prop}(k:r)(h:Kq r->p:=by intro k;refine sr ?_;refine tv (by first|exact o_load p24 rfl hsqz rfl|exact o_loadC p24 rfl (by assumption)) ?_;exact k.o):p:=h ⟨k⟩
theorem Zgm {p r:Prop}(k:r)(h:Kq r->p:=by intro k;refine Zbh ?_;refine Zz ?_;exact k.o):p:=h ⟨k⟩
theorem Zho {p r:Prop}(k:r)(h:Kq r->p:=by intro k;refine ⟨by repeat (first|with_reducible exact dr_refl|apply dr_keep|apply dr_drop), ?_⟩;refine tu_one (i:=14) kqz ?_;exact k.o):p:=h ⟨k⟩
theorem move21_u {A R:SP}{C:SP->SP->SP}{X:WkX}{Y:WkY}{T:WkT}{s:DevS}{r1 r2 hh:Nat}(hc:Ct2 A (WkA X Y s) (pt hh (cl (hisV X r1 r2) 136)) R C:=by repeat (first|with_reducible exact ct2_r ctqz|with_reducible exact ct2_l ctqz|apply ct2_left))(hok:WkOk X Y T (s.ls.length*64))(hb:WkB X s)(ho:s.off=false:=by assumption){l1 l2:List (Nat×List (List Nat))}{us rs:List (Nat×Hcg)}{au ar:Option Addr}{cu cr:Nat}(hI:HsI X.n X.ba s T r1 l1 r2 l2 us rs)(hn16:us.length+rs.length<=16)(hroom:7+us.length+rs.length<=X.n)(hr:Rs R au (hens us))(hcu:us.length<=cu):
    Fn Tryz.prog 137 #[pz hh,.pointer (some ⟨hh,1,none⟩),.pointer (some ⟨hh,2,none⟩),.slice au us.length cu,.slice ar rs.length cr] A (λ r B=>∃r3 r4 l3 l4 us3 rs3 c3 e3 Y3 T3,movS us rs=(us3,rs3,c3,e3)/\ r= .tuple #[.agg (Hcg.cells c3).toArray,.int .i64 e3]/\ HsI X.n X.ba s T3 r3 l3 r4 l4 us3 rs3/\ WkOk X Y3 T3 (s.ls.length*64)/\ B=C (WkA X Y3 s) (pt hh (cl (hisV X r3 r4) 136))):=by
  refine fn_enterD (args:=[pz hh,.pointer (some ⟨hh,1,none⟩),.pointer (some ⟨hh,2,none⟩),.slice au us.length cu,.slice ar rs.length cr]) func137 rfl ntmps137 (by simp) bd138 (by repeat (first|exact tl_tls|exact tl_und|assumption|refine tl_upd ?_)) ?_;obtain ⟨hb1,hb2,hb3⟩:=id hb;obtain ⟨rfl,hC⟩:=hc;refine tc_have (λ _ _ h=>txa_wf (wka_txa (ct_left ct_here)) _ _ h) λ hwf=> ?_
  have hXn:X.n<=16384:=(by omega);have hin:∀b,b<X.n->X.ba+256*b+256<=(imgS s).length:=λ b hb9=>by rw [imgS_len hwf];omega
  have hul:(us++rs).length=us.length+rs.length:=List.length_append;obtain ⟨hR1,hR2⟩:=hI.g.ref;obtain ⟨⟨hL1,hL2⟩,hL3,hL4⟩:=hI.lens oqz oqz;have hbl9:((us++rs).map blC).length=us.length+rs.length:=(by rw [List.length_map,hul]);refine sr ?_;refine tl_x rfl (o_alloc (l:=[.int .i64 0,.string ⟨#[]⟩,.string ⟨#[]⟩]) z23 rfl) ?_;rintro _ _ ⟨b10,rfl,rfl⟩;refine tl_x rfl (o_alloc (l:=[.int .i64 0]) z24 rfl) ?_;rintro _ _ ⟨b11,rfl,rfl⟩;refine Zh3 ?_;refine tv (o_len underlying212 rfl) ?_;refine Zcr ?_;refine tc_cond rfl (λ h=> ?_) (λ h=> ?_)
  . have hu0:us=[]:=(by first|(simpa using h)|exact List.eq_nil_of_length_eq_zero oqz);have hmv:movS us rs=(us,rs,⟨0,⟨#[]⟩,⟨#[]⟩⟩,210):=(by rw [hu0];rfl);refine sr ?_;refine tv (o_loadN (vs:=[.int .i64 0,.string ⟨#[]⟩,.string ⟨#[]⟩]) a23 sz23 rfl hsqz (by exact Nat.le_refl 3) rfl) ?_;refine tl_u rfl (o_stUN (l':=[.int .i64 0,.string ⟨#[]⟩,.string ⟨#[]⟩]) rfl upqz sz23 rfl rfl rfl (by exact Nat.le_refl 3) rfl) ?_;refine tl_u rfl (o_stU rfl upqz sz24 rfl rfl (by first|decide|simp|omega) rfl) ?_;refine Zhr ?_;refine q_then_r ?_;exact .inl ⟨by repeat (first|exact tl_tls|exact tl_und|assumption|refine tl_upd ?_),.tuple #[.agg (Hcg.cells (⟨0,⟨#[]⟩,⟨#[]⟩⟩:Hcg)).toArray,.int .i64 210],C (WkA X Y s) (pt hh (cl (hisV X r1 r2) 136)),resA2 rfl (rv_cell a23 sz23 rfl hsqz (by show 0+3<=3;decide) rfl) (rv_cell1 p24 rfl hsqz rfl),(λ g w h=>by rw [hC];exact Dr.sat (A':=R*WkA X Y s*pt hh (cl (hisV X r1 r2) 136)) drqz g w h),_,_,_,_,_,_,_,_,_,_,hmv,rfl,hI,hok,rfl⟩
  obtain ⟨us0,x,hus⟩:∃us0 x,us=us0++[x]:=by
    rcases List.eq_nil_or_concat us with h9|⟨L,b,h9⟩
    . exfalso;rw [h9] at h;simp at h
    exact ⟨L,b,by rw [h9,List.concat_eq_append]⟩
  obtain ⟨k,hk⟩:∃k,us0.length=k:=⟨_,rfl⟩;have hul9:us.length=k+1:=(by rw [hus,List.length_append,hk];rfl);have hat:((hens us).drop (k*4)).take 4=Hen x:=(by rw [hens_at oqz];congr 1;subst hus;rw [List.getElem_append_right oqz];simp [hk]);have hmv:movS us rs=(us0,rs++[x],x.2,0):=(by rw [hus];simp [movS]);have hxm:x∈us++rs:=(by rw [hus];simp);obtain ⟨_,_,_,_,hxn⟩:=hI.get hxm;have hpm:(us++rs).Perm (us0++(rs++[x])):=(by rw [hus,List.append_assoc];exact List.Perm.append_left _ (List.perm_append_comm));have hc1:=hI.c1;have hc2:=hI.c2;have hfl1:(flatP (asP l1)).length=k+1:=(by rw [hc1,List.length_map];exact hul9);have hfl2:(flatP (asP l2)).length=rs.length:=(by rw [hc2,List.length_map]);obtain ⟨r9,T9,l9,hd1,hd2,hd3⟩:=hI.g.del (i:=k) (k:=1) hin oqz oqz oqz;have hd4:flatP (asP l9)=us0.map refC:=(by rw [hd3,hc1,hus,List.map_append,List.drop_of_length_le (by rw [List.length_append,List.length_map];simp;omega),List.append_nil];exact List.take_left' (by rw [List.length_map];exact hk));obtain ⟨hl9a,hl9b⟩:=tbl_one hd2.t1 (by rw [hd4,List.length_map];exact Nat.le_trans (show us0.length<=16 by omega) (by decide));obtain ⟨r8,T8,l8,hi1,hi2,hi3⟩:=hd2.swap.ins (i:=rs.length) (ins:=[le 4 (x.1+1)]) hin oqz oqz oqz (by show 1<=20;decide) (λ y hy=>by rw [List.mem_singleton] at hy;rw [hy,le_length]);have hi4:flatP (asP l8)=(rs++[x]).map refC:=(by rw [hi3,hc2,List.take_of_length_le (by rw [List.length_map];exact Nat.le_refl _),List.drop_of_length_le (by rw [List.length_map];exact Nat.le_refl _),List.append_nil,List.map_append];rfl);have hI9:HsI X.n X.ba s T8 r9 l9 r8 l8 us0 (rs++[x]):=⟨hi2.swap.perm (hpm.map _),hd4,hi4,λ y hy=>hI.ok y (hpm.mem_iff.2 hy)⟩;have hR9:=hd2.ref.1;refine Zeb ?_;refine Zed ?_;refine tv (o_loadN (vs:=[.int .u32 ((r1:Nat):Int),.int .u32 ((r2:Nat):Int)]) a134 sz134 rfl hsqz (by show 1+2<=3;decide) rfl) ?_;refine tl_d ([pz hh,.agg #[.int .u32 ((r1:Nat):Int),.int .u32 ((r2:Nat):Int)],pz b11]) (by repeat (first|exact tl_tls|exact tl_und|assumption|refine tl_upd ?_)) rfl ?_;refine nq ?_;refine Zbj ?_;refine tv (o_len underlying212 rfl) ?_;refine tv (o_subI rfl rfl oqz) ?_;refine tl_env (d:=25) (v:=(vn k)) (congrArg (Value.int .i64) oqz) ?_;refine tv (o_ixP (j:=k) underlying212 sz247 rfl rfl oqz (nn_rs (xs:=hens us) (by repeat (first|exact hr|apply Rs.left)) (λ _=>by rw [hens_len];omega))) ?_;refine tv (o_ldPN (vs:=Hen x) a247 sz247 rfl (by repeat (first|exact hr|apply Rs.left)) hat rfl (by decide)) ?_;refine tl_x rfl (o_alloc (l:=[.int .u32 0,.int .i64 0,.string ⟨#[]⟩,.string ⟨#[]⟩]) z247 rfl) ?_;rintro _ _ ⟨b12,rfl,rfl⟩;refine tl_u rfl (o_stUN (l':=Hen x) rfl upqz sz247 rfl rfl rfl (by exact Nat.le_refl 4) rfl) ?_;refine nq ?_;refine Zb1 ?_;refine tc_cut (λ ρ BB=>∃ (Y9:WkY),(WkOk X Y9 T9 (s.ls.length*64))/\ (Tl 73 ρ (.agg #[pz hh,.agg #[.int .u32 ((r1:Nat):Int),.int .u32 ((r2:Nat):Int)],pz b11]))/\ ρ 0=(pz hh)/\ ρ 2= .pointer (some ⟨hh,2,none⟩)/\ ρ 4= .slice ar rs.length cr/\ ρ 10=(pz b10)/\ ρ 11=(pz b11)/\ ρ 12=(pz b12)/\ Dr BB (R*WkA X Y9 s*pt hh (cl (hisV X r9 r2) 136)*pt b10 (cl [.int .i64 0,.string ⟨#[]⟩,.string ⟨#[]⟩] 23)*pt b11 (cl [.int .i64 0] 24)*pt b12 (cl (Hen x) 247))) ?_ ?_
  . skip
    refine tc_regk 11 mo ?_
    show @TU (dfT 138) _ _ _ _ _ _ 18 (Array.replicate 18 false) _ _
    refine tu_pure (i:=0) (listed':= #[tt,ff,ff,ff,ff,ff,ff,ff,ff,ff,ff,ff,ff,ff,ff,ff,ff,ff]) rfl kqz kqz kqz rfl rfl rfl (o_move wqz) ?_;refine tu_take (i:=1) (listed':= #[tt,tt,ff,ff,ff,ff,ff,ff,ff,ff,ff,ff,ff,ff,ff,ff,ff,ff]) [2,3,4,11] rfl kqz kqz kqz kqz rfl rfl (o_move wqz) ?_;refine tu_take (i:=2) (listed':= #[tt,tt,tt,ff,ff,ff,ff,ff,ff,ff,ff,ff,ff,ff,ff,ff,ff,ff]) [3,4,11] rfl kqz kqz kqz kqz rfl rfl (o_nilCheck rfl) ?_;refine tu_take (i:=3) (listed':= #[tt,tt,tt,tt,ff,ff,ff,ff,ff,ff,ff,ff,ff,ff,ff,ff,ff,ff]) [4,11] rfl kqz kqz kqz kqz rfl rfl (o_fieldAddr (o:=0) underlying136 rfl rfl sz46 rfl) ?_;refine tu_take (i:=4) (listed':= #[tt,tt,tt,tt,tt,ff,ff,ff,ff,ff,ff,ff,ff,ff,ff,ff,ff,ff]) [11] rfl kqz kqz kqz kqz rfl rfl (o_load p46 rfl hsqz rfl) ?_;refine tu_env (d:=33) (v:= .pointer (some ⟨X.w,0,none⟩)) (rfl) ?_;refine tu_take (i:=5) (listed':= #[tt,tt,tt,tt,tt,tt,ff,ff,ff,ff,ff,ff,ff,ff,ff,ff,ff,ff]) [6,7,11] rfl kqz kqz kqz kqz rfl rfl (o_move wqz) ?_;refine tu_take (i:=6) (listed':= #[tt,tt,tt,tt,tt,tt,tt,ff,ff,ff,ff,ff,ff,ff,ff,ff,ff,ff]) [7,11] rfl kqz kqz kqz kqz rfl rfl (o_nilCheck rfl) ?_;refine tu_take (i:=7) (listed':= #[tt,tt,tt,tt,tt,tt,tt,tt,ff,ff,ff,ff,ff,ff,ff,ff,ff,ff]) [11] rfl kqz kqz kqz kqz rfl rfl (o_load p53 rfl hsqz rfl) ?_;refine tu_env (d:=36) (v:= .int .u32 ((r1:Nat):Int)) (rfl) ?_;refine tu_take (i:=8) (listed':= #[tt,tt,tt,tt,tt,tt,tt,tt,tt,ff,ff,ff,ff,ff,ff,ff,ff,ff]) [9,10,11] rfl kqz kqz kqz kqz rfl rfl (o_move wqz) ?_;refine tu_take (i:=9) (listed':= #[tt,tt,tt,tt,tt,tt,tt,tt,tt,tt,ff,ff,ff,ff,ff,ff,ff,ff]) [10,11] rfl kqz kqz kqz kqz rfl rfl (o_len underlying212 rfl) ?_;refine tu_take (i:=10) (listed':= #[tt,tt,tt,tt,tt,tt,tt,tt,tt,tt,tt,ff,ff,ff,ff,ff,ff,ff]) [11] rfl kqz kqz kqz kqz rfl rfl (o_subI rfl rfl oqz) ?_;refine tu_env (d:=39) (v:=(vn k)) (congrArg (Value.int .i64) oqz) ?_;refine tu_one (i:=11) kqz ?_;refine uk_c (S2:=R) (i:=11) (listed':= #[tt,tt,tt,tt,tt,tt,tt,tt,tt,tt,tt,tt,ff,ff,ff,ff,ff,ff]) rfl rfl rfl rfl (o_call bd30 rfl (Delete15_c (ho:=ho) (X:=X) (Y:=Y) (T:=T) (s:=s) (hok:=hok) (hb:=hb) (ref:=r1) (cell:=4) (ix:=((k:Nat):Int)) (nx:=((1:Nat):Int)) (hr1:=by omega) (hcell:=by decide) (hix:=by omega) (hnx:=by decide))) ?_;rintro _ _ ⟨rf40,e40,T40,Y40,hir40,rfl,hok40,rfl⟩;refine ⟨by repeat (first|with_reducible exact dr_refl|apply dr_keep|apply dr_drop), ?_⟩;rw [delR_tbl hI.g.t1 (by decide) hI.g.lt oqz,hd1] at hir40
    obtain ⟨rfl,h9⟩:=Prod.mk.inj hir40;obtain ⟨rfl,rfl⟩:=Prod.mk.inj h9;refine tm 12 rfl kqz rfl (o_move wqz) ?_;refine tm 13 rfl kqz rfl (o_extract rfl rfl) ?_;refine tm 14 rfl kqz rfl (o_extract rfl rfl) ?_;refine tm 15 rfl kqz rfl (o_nilCheck rfl) ?_;refine th_one (i:=16) kqz ?_;refine oh_u rfl rfl rfl (o_stU (l':=hisV X r9 r2) rfl upqz sz53 rfl rfl (by show 1<3;decide) rfl) drqz ?_;refine th_one (i:=17) kqz ?_;refine oh_u rfl rfl rfl (o_stU (l':=[.int .i64 0]) rfl upqz sz24 rfl rfl (by exact Nat.one_pos) rfl) drqz ?_;refine th_done kqz ?_;exact ⟨_,hok40,by repeat (first|exact tl_tls|exact tl_und|refine tl_upd ?_),rfl,rfl,rfl,rfl,rfl,rfl,drqz⟩
  intro ρ B hI;obtain ⟨Y9,hm0,hm1,hE0,hE2,hE4,hE10,hE11,hE12,hBA⟩:=hI;refine q_then_n ?_;refine tc_pre hBA.sat ?_;clear hBA;refine te 0 hE0 ?_;refine te 2 hE2 ?_;refine te 4 hE4 ?_;refine te 10 hE10 ?_;refine te 11 hE11 ?_;refine te 12 hE12 ?_;refine Zgm ?_;intro h;refine Ze ?_;refine Zb1 ?_;refine tc_cut (λ ρ BB=>∃ (Y8:WkY),(WkOk X Y8 T8 (s.ls.length*64))/\ (Tl 73 ρ (.agg #[pz hh,.agg #[.int .u32 ((r1:Nat):Int),.int .u32 ((r2:Nat):Int)],pz b11]))/\ ρ 10=(pz b10)/\ ρ 11=(pz b11)/\ ρ 12=(pz b12)/\ Dr BB (R*WkA X Y8 s*pt hh (cl (hisV X r9 r8) 136)*pt b10 (cl [.int .i64 0,.string ⟨#[]⟩,.string ⟨#[]⟩] 23)*pt b11 (cl [.int .i64 0] 24)*pt b12 (cl (Hen x) 247))) ?_ ?_
  . skip
    refine tc_regk 14 mo ?_
    show @TU (dfT 138) _ _ _ _ _ _ 21 (Array.replicate 21 false) _ _
    refine tu_pure (i:=0) (listed':= #[tt,ff,ff,ff,ff,ff,ff,ff,ff,ff,ff,ff,ff,ff,ff,ff,ff,ff,ff,ff,ff]) rfl kqz kqz kqz rfl rfl rfl (o_move wqz) ?_;refine tu_take (i:=1) (listed':= #[tt,tt,ff,ff,ff,ff,ff,ff,ff,ff,ff,ff,ff,ff,ff,ff,ff,ff,ff,ff,ff]) [2,3,4,14] rfl kqz kqz kqz kqz rfl rfl (o_move wqz) ?_;refine tu_take (i:=2) (listed':= #[tt,tt,tt,ff,ff,ff,ff,ff,ff,ff,ff,ff,ff,ff,ff,ff,ff,ff,ff,ff,ff]) [3,4,14] rfl kqz kqz kqz kqz rfl rfl (o_nilCheck rfl) ?_;refine tu_take (i:=3) (listed':= #[tt,tt,tt,tt,ff,ff,ff,ff,ff,ff,ff,ff,ff,ff,ff,ff,ff,ff,ff,ff,ff]) [4,14] rfl kqz kqz kqz kqz rfl rfl (o_fieldAddr (o:=0) underlying136 rfl rfl sz46 rfl) ?_;refine tu_take (i:=4) (listed':= #[tt,tt,tt,tt,tt,ff,ff,ff,ff,ff,ff,ff,ff,ff,ff,ff,ff,ff,ff,ff,ff]) [14] rfl kqz kqz kqz kqz rfl rfl (o_load p46 rfl hsqz rfl) ?_;refine tu_env (d:=53) (v:= .pointer (some ⟨X.w,0,none⟩)) (rfl) ?_;refine tu_take (i:=5) (listed':= #[tt,tt,tt,tt,tt,tt,ff,ff,ff,ff,ff,ff,ff,ff,ff,ff,ff,ff,ff,ff,ff]) [6,7,14] rfl kqz kqz kqz kqz rfl rfl (o_move wqz) ?_;refine tu_take (i:=6) (listed':= #[tt,tt,tt,tt,tt,tt,tt,ff,ff,ff,ff,ff,ff,ff,ff,ff,ff,ff,ff,ff,ff]) [7,14] rfl kqz kqz kqz kqz rfl rfl (o_nilCheck rfl) ?_;refine tu_take (i:=7) (listed':= #[tt,tt,tt,tt,tt,tt,tt,tt,ff,ff,ff,ff,ff,ff,ff,ff,ff,ff,ff,ff,ff]) [14] rfl kqz kqz kqz kqz rfl rfl (o_load p53 rfl hsqz rfl) ?_;refine tu_env (d:=56) (v:= .int .u32 ((r2:Nat):Int)) (rfl) ?_;refine tu_take (i:=8) (listed':= #[tt,tt,tt,tt,tt,tt,tt,tt,tt,ff,ff,ff,ff,ff,ff,ff,ff,ff,ff,ff,ff]) [9,14] rfl kqz kqz kqz kqz rfl rfl (o_move wqz) ?_;refine tu_take (i:=9) (listed':= #[tt,tt,tt,tt,tt,tt,tt,tt,tt,tt,ff,ff,ff,ff,ff,ff,ff,ff,ff,ff,ff]) [14] rfl kqz kqz kqz kqz rfl rfl (o_len underlying212 rfl) ?_;refine tu_take (i:=10) (listed':= #[tt,tt,tt,tt,tt,tt,tt,tt,tt,tt,tt,ff,ff,ff,ff,ff,ff,ff,ff,ff,ff]) [11,12,13,14] rfl kqz kqz kqz kqz rfl rfl (o_fieldAddr (o:=0) underlying247 rfl rfl sz53 rfl) ?_;refine tu_take (i:=11) (listed':= #[tt,tt,tt,tt,tt,tt,tt,tt,tt,tt,tt,tt,ff,ff,ff,ff,ff,ff,ff,ff,ff]) [12,13,14] rfl kqz kqz kqz kqz rfl rfl (o_load p53 rfl hsqz rfl) ?_;refine tu_env (d:=60) (v:= .int .u32 ((x.1+1:Nat):Int)) (rfl) ?_;refine tu_one (i:=12) kqz ?_;refine ou_c (i:=12) (listed':= #[tt,tt,tt,tt,tt,tt,tt,tt,tt,tt,tt,tt,tt,ff,ff,ff,ff,ff,ff,ff,ff]) rfl rfl rfl (o_call bd74 rfl (Put32_c (a:=none) (m:=0) (xs:=[]) (v:=x.1+1) (hr:=rs_none) (hm:=rfl))) ?_;rintro _ _ ⟨a61,c61,rfl,hc61,rfl⟩;refine ⟨by repeat (first|with_reducible exact dr_refl|apply dr_keep|apply dr_drop), ?_⟩;refine tu_env (d:=61) (v:= .slice a61 4 c61) (rfl) ?_;refine tu_one (i:=13) kqz ?_;refine ou_x (i:=13) (listed':= #[tt,tt,tt,tt,tt,tt,tt,tt,tt,tt,tt,tt,tt,tt,ff,ff,ff,ff,ff,ff,ff]) rfl rfl rfl (o_buildSliceL (vs:=[.slice a61 4 c61]) (l:=[.slice a61 4 c61]) underlying35 sz67 z67 rfl rfl (by decide) (by decide) (by intro v hv;simp only [List.mem_singleton] at hv;subst hv;rfl) rfl) ?_;rintro _ _ ⟨b62,rfl,rfl⟩;refine Zho ?_;refine uk_c (S2:=R) (i:=14) (listed':= #[tt,tt,tt,tt,tt,tt,tt,tt,tt,tt,tt,tt,tt,tt,tt,ff,ff,ff,ff,ff,ff]) rfl rfl rfl rfl (o_call bd28 rfl (Insert15_c (ho:=ho) (X:=X) (Y:=Y9) (T:=T9) (s:=s) (hok:=hm0) (hb:=hb) (ref:=r2) (cell:=4) (ix:=((rs.length:Nat):Int)) (rows:=[le 4 (x.1+1)]) (rv:=[.slice a61 4 c61]) (ar:=some ⟨b62,0,none⟩) (cr:=1) (hr1:=by omega) (hcell:=by decide) (hix:=by omega) (hrr:=by repeat (first|exact rs_pt rfl|apply Rs.left)) (hrw:=⟨rfl,λ j hj=>match j,hj with|0,_=>⟨_,_,rfl,(by show Rs _ _ (bys ([]++le 4 (x.1+1)));repeat (first|with_reducible exact rs_sl|apply Rs.left))⟩⟩) (hrc:=λ y hy=>by rw [List.mem_singleton] at hy;rw [hy];exact ⟨le_length _ _,le_bytes _ _⟩) (hrn:=by show 1<=65536;decide))) ?_;rintro _ _ ⟨rf63,e63,T63,Y63,hir63,rfl,hok63,rfl⟩;refine ⟨by repeat (first|with_reducible exact dr_refl|apply dr_keep|apply dr_drop), ?_⟩;rw [insR_tbl hd2.t2 (by decide) hd2.lt oqz,hi1] at hir63
    obtain ⟨rfl,h9⟩:=Prod.mk.inj hir63;obtain ⟨rfl,rfl⟩:=Prod.mk.inj h9;refine tm 15 rfl kqz rfl (o_move wqz) ?_;refine Zfz ?_;refine tm 18 rfl kqz rfl (o_nilCheck rfl) ?_;refine th_one (i:=19) kqz ?_;refine oh_u rfl rfl rfl (o_stU (l':=hisV X r9 r8) rfl upqz sz53 rfl rfl (by show 2<3;decide) rfl) drqz ?_;refine th_one (i:=20) kqz ?_;refine oh_u rfl rfl rfl (o_stU (l':=[.int .i64 0]) rfl upqz sz24 rfl rfl (by exact Nat.one_pos) rfl) drqz ?_;refine th_done kqz ?_;exact ⟨_,hok63,by repeat (first|exact tl_tls|exact tl_und|assumption|refine tl_upd ?_),rfl,rfl,rfl,drqz⟩
  intro ρ B hI;obtain ⟨Y8,hq0,hq1,hE10,hE11,hE12,hBA⟩:=hI;refine q_then_n ?_;refine tc_pre hBA.sat ?_;clear hBA;refine te 10 hE10 ?_;refine te 11 hE11 ?_;refine te 12 hE12 ?_;refine Zgm ?_;intro h;refine Zgy ?_;refine tv (o_fieldAddr (o:=1) underlying247 rfl rfl sz23 rfl) ?_;refine tv (o_loadN (vs:=x.2.cells) a23 sz23 rfl hsqz (by show 1+3<=4;decide) rfl) ?_;refine tl_u rfl (o_stUN (l':=x.2.cells) rfl upqz sz23 rfl rfl rfl (by exact Nat.le_refl 3) rfl) ?_;refine tl_u rfl (o_stU (l':=[.int .i64 0]) rfl upqz sz24 rfl rfl (by exact Nat.one_pos) rfl) ?_;refine Zhr ?_;refine .inr ⟨_,by repeat (first|exact tl_tls|exact tl_und|assumption|refine tl_upd ?_),(keep21_d (hih:=(by repeat (first|exact has_here|apply has_left))) (he:=(by repeat (first|exact has_here|apply has_left)))).mono ?_⟩;rintro _ _ rfl;exact ⟨.tuple #[.agg (Hcg.cells x.2).toArray,.int .i64 0],C (WkA X Y8 s) (pt hh (cl (hisV X r9 r8) 136)),resA2 rfl (rv_cell a23 sz23 rfl hsqz (by show 0+3<=3;decide) rfl) (rv_cell1 p24 rfl hsqz rfl),(λ g w h=>by rw [hC];exact Dr.sat (A':=R*WkA X Y8 s*pt hh (cl (hisV X r9 r8) 136)) drqz g w h),_,_,_,_,_,_,_,_,_,_,hmv,rfl,hI9,hq0,rfl⟩
theorem move21_r {A R:SP}{C:SP->SP->SP}{X:WkX}{Y:WkY}{T:WkT}{s:DevS}{r1 r2 hh:Nat}(hc:Ct2 A (WkA X Y s) (pt hh (cl (hisV X r2 r1) 136)) R C:=by repeat (first|with_reducible exact ct2_r ctqz|with_reducible exact ct2_l ctqz|apply ct2_left))(hok:WkOk X Y T (s.ls.length*64))(hb:WkB X s)(ho:s.off=false:=by assumption){l1 l2:List (Nat×List (List Nat))}{us rs:List (Nat×Hcg)}{au ar:Option Addr}{cu cr:Nat}(hI:HsI X.n X.ba s T r1 l1 r2 l2 us rs)(hn16:us.length+rs.length<=16)(hroom:7+us.length+rs.length<=X.n)(hr:Rs R au (hens us))(hcu:us.length<=cu):
    Fn Tryz.prog 137 #[pz hh,.pointer (some ⟨hh,2,none⟩),.pointer (some ⟨hh,1,none⟩),.slice au us.length cu,.slice ar rs.length cr] A (λ r B=>∃r3 r4 l3 l4 us3 rs3 c3 e3 Y3 T3,movS us rs=(us3,rs3,c3,e3)/\ r= .tuple #[.agg (Hcg.cells c3).toArray,.int .i64 e3]/\ HsI X.n X.ba s T3 r3 l3 r4 l4 us3 rs3/\ WkOk X Y3 T3 (s.ls.length*64)/\ B=C (WkA X Y3 s) (pt hh (cl (hisV X r4 r3) 136))):=by
  refine fn_enterD (args:=[pz hh,.pointer (some ⟨hh,2,none⟩),.pointer (some ⟨hh,1,none⟩),.slice au us.length cu,.slice ar rs.length cr]) func137 rfl ntmps137 (by simp) bd138 (by repeat (first|exact tl_tls|exact tl_und|assumption|refine tl_upd ?_)) ?_;obtain ⟨hb1,hb2,hb3⟩:=id hb;obtain ⟨rfl,hC⟩:=hc;refine tc_have (λ _ _ h=>txa_wf (wka_txa (ct_left ct_here)) _ _ h) λ hwf=> ?_
  have hXn:X.n<=16384:=(by omega);have hin:∀b,b<X.n->X.ba+256*b+256<=(imgS s).length:=λ b hb9=>by rw [imgS_len hwf];omega
  have hul:(us++rs).length=us.length+rs.length:=List.length_append;obtain ⟨hR1,hR2⟩:=hI.g.ref;obtain ⟨⟨hL1,hL2⟩,hL3,hL4⟩:=hI.lens oqz oqz;have hbl9:((us++rs).map blC).length=us.length+rs.length:=(by rw [List.length_map,hul]);refine sr ?_;refine tl_x rfl (o_alloc (l:=[.int .i64 0,.string ⟨#[]⟩,.string ⟨#[]⟩]) z23 rfl) ?_;rintro _ _ ⟨b10,rfl,rfl⟩;refine tl_x rfl (o_alloc (l:=[.int .i64 0]) z24 rfl) ?_;rintro _ _ ⟨b11,rfl,rfl⟩;refine Zh3 ?_;refine tv (o_len underlying212 rfl) ?_;refine Zcr ?_;refine tc_cond rfl (λ h=> ?_) (λ h=> ?_)
  . have hu0:us=[]:=(by first|(simpa using h)|exact List.eq_nil_of_length_eq_zero oqz);have hmv:movS us rs=(us,rs,⟨0,⟨#[]⟩,⟨#[]⟩⟩,210):=(by rw [hu0];rfl);refine sr ?_;refine tv (o_loadN (vs:=[.int .i64 0,.string ⟨#[]⟩,.string ⟨#[]⟩]) a23 sz23 rfl hsqz (by exact Nat.le_refl 3) rfl) ?_;refine tl_u rfl (o_stUN (l':=[.int .i64 0,.string ⟨#[]⟩,.string ⟨#[]⟩]) rfl upqz sz23 rfl rfl rfl (by exact Nat.le_refl 3) rfl) ?_;refine tl_u rfl (o_stU rfl upqz sz24 rfl rfl (by first|decide|simp|omega) rfl) ?_;refine Zhr ?_;refine q_then_r ?_;exact .inl ⟨by repeat (first|exact tl_tls|exact tl_und|assumption|refine tl_upd ?_),.tuple #[.agg (Hcg.cells (⟨0,⟨#[]⟩,⟨#[]⟩⟩:Hcg)).toArray,.int .i64 210],C (WkA X Y s) (pt hh (cl (hisV X r2 r1) 136)),resA2 rfl (rv_cell a23 sz23 rfl hsqz (by show 0+3<=3;decide) rfl) (rv_cell1 p24 rfl hsqz rfl),(λ g w h=>by rw [hC];exact Dr.sat (A':=R*WkA X Y s*pt hh (cl (hisV X r2 r1) 136)) drqz g w h),_,_,_,_,_,_,_,_,_,_,hmv,rfl,hI,hok,rfl⟩
  obtain ⟨us0,x,hus⟩:∃us0 x,us=us0++[x]:=by
    rcases List.eq_nil_or_concat us with h9|⟨L,b,h9⟩
    . exfalso;rw [h9] at h;simp at h
    exact ⟨L,b,by rw [h9,List.concat_eq_append]⟩
  obtain ⟨k,hk⟩:∃k,us0.length=k:=⟨_,rfl⟩;have hul9:us.length=k+1:=(by rw [hus,List.length_append,hk];rfl);have hat:((hens us).drop (k*4)).take 4=Hen x:=(by rw [hens_at oqz];congr 1;subst hus;rw [List.getElem_append_right oqz];simp [hk]);have hmv:movS us rs=(us0,rs++[x],x.2,0):=(by rw [hus];simp [movS]);have hxm:x∈us++rs:=(by rw [hus];simp);obtain ⟨_,_,_,_,hxn⟩:=hI.get hxm;have hpm:(us++rs).Perm (us0++(rs++[x])):=(by rw [hus,List.append_assoc];exact List.Perm.append_left _ (List.perm_append_comm));have hc1:=hI.c1;have hc2:=hI.c2;have hfl1:(flatP (asP l1)).length=k+1:=(by rw [hc1,List.length_map];exact hul9);have hfl2:(flatP (asP l2)).length=rs.length:=(by rw [hc2,List.length_map]);obtain ⟨r9,T9,l9,hd1,hd2,hd3⟩:=hI.g.del (i:=k) (k:=1) hin oqz oqz oqz;have hd4:flatP (asP l9)=us0.map refC:=(by rw [hd3,hc1,hus,List.map_append,List.drop_of_length_le (by rw [List.length_append,List.length_map];simp;omega),List.append_nil];exact List.take_left' (by rw [List.length_map];exact hk));obtain ⟨hl9a,hl9b⟩:=tbl_one hd2.t1 (by rw [hd4,List.length_map];exact Nat.le_trans (show us0.length<=16 by omega) (by decide));obtain ⟨r8,T8,l8,hi1,hi2,hi3⟩:=hd2.swap.ins (i:=rs.length) (ins:=[le 4 (x.1+1)]) hin oqz oqz oqz (by show 1<=20;decide) (λ y hy=>by rw [List.mem_singleton] at hy;rw [hy,le_length]);have hi4:flatP (asP l8)=(rs++[x]).map refC:=(by rw [hi3,hc2,List.take_of_length_le (by rw [List.length_map];exact Nat.le_refl _),List.drop_of_length_le (by rw [List.length_map];exact Nat.le_refl _),List.append_nil,List.map_append];rfl);have hI9:HsI X.n X.ba s T8 r9 l9 r8 l8 us0 (rs++[x]):=⟨hi2.swap.perm (hpm.map _),hd4,hi4,λ y hy=>hI.ok y (hpm.mem_iff.2 hy)⟩;have hR9:=hd2.ref.1;refine Zeb ?_;refine Zed ?_;refine tv (o_loadN (vs:=[.int .u32 ((r2:Nat):Int),.int .u32 ((r1:Nat):Int)]) a134 sz134 rfl hsqz (by show 1+2<=3;decide) rfl) ?_;refine tl_d ([pz hh,.agg #[.int .u32 ((r2:Nat):Int),.int .u32 ((r1:Nat):Int)],pz b11]) (by repeat (first|exact tl_tls|exact tl_und|assumption|refine tl_upd ?_)) rfl ?_;refine nq ?_;refine Zbj ?_;refine tv (o_len underlying212 rfl) ?_;refine tv (o_subI rfl rfl oqz) ?_;refine tl_env (d:=25) (v:=(vn k)) (congrArg (Value.int .i64) oqz) ?_;refine tv (o_ixP (j:=k) underlying212 sz247 rfl rfl oqz (nn_rs (xs:=hens us) (by repeat (first|exact hr|apply Rs.left)) (λ _=>by rw [hens_len];omega))) ?_;refine tv (o_ldPN (vs:=Hen x) a247 sz247 rfl (by repeat (first|exact hr|apply Rs.left)) hat rfl (by decide)) ?_;refine tl_x rfl (o_alloc (l:=[.int .u32 0,.int .i64 0,.string ⟨#[]⟩,.string ⟨#[]⟩]) z247 rfl) ?_;rintro _ _ ⟨b12,rfl,rfl⟩;refine tl_u rfl (o_stUN (l':=Hen x) rfl upqz sz247 rfl rfl rfl (by exact Nat.le_refl 4) rfl) ?_;refine nq ?_;refine Zb1 ?_;refine tc_cut (λ ρ BB=>∃ (Y9:WkY),(WkOk X Y9 T9 (s.ls.length*64))/\ (Tl 73 ρ (.agg #[pz hh,.agg #[.int .u32 ((r2:Nat):Int),.int .u32 ((r1:Nat):Int)],pz b11]))/\ ρ 0=(pz hh)/\ ρ 2= .pointer (some ⟨hh,1,none⟩)/\ ρ 4= .slice ar rs.length cr/\ ρ 10=(pz b10)/\ ρ 11=(pz b11)/\ ρ 12=(pz b12)/\ Dr BB (R*WkA X Y9 s*pt hh (cl (hisV X r2 r9) 136)*pt b10 (cl [.int .i64 0,.string ⟨#[]⟩,.string ⟨#[]⟩] 23)*pt b11 (cl [.int .i64 0] 24)*pt b12 (cl (Hen x) 247))) ?_ ?_
  . skip
    refine tc_regk 11 mo ?_
    show @TU (dfT 138) _ _ _ _ _ _ 18 (Array.replicate 18 false) _ _
    refine tu_pure (i:=0) (listed':= #[tt,ff,ff,ff,ff,ff,ff,ff,ff,ff,ff,ff,ff,ff,ff,ff,ff,ff]) rfl kqz kqz kqz rfl rfl rfl (o_move wqz) ?_;refine tu_take (i:=1) (listed':= #[tt,tt,ff,ff,ff,ff,ff,ff,ff,ff,ff,ff,ff,ff,ff,ff,ff,ff]) [2,3,4,11] rfl kqz kqz kqz kqz rfl rfl (o_move wqz) ?_;refine tu_take (i:=2) (listed':= #[tt,tt,tt,ff,ff,ff,ff,ff,ff,ff,ff,ff,ff,ff,ff,ff,ff,ff]) [3,4,11] rfl kqz kqz kqz kqz rfl rfl (o_nilCheck rfl) ?_;refine tu_take (i:=3) (listed':= #[tt,tt,tt,tt,ff,ff,ff,ff,ff,ff,ff,ff,ff,ff,ff,ff,ff,ff]) [4,11] rfl kqz kqz kqz kqz rfl rfl (o_fieldAddr (o:=0) underlying136 rfl rfl sz46 rfl) ?_;refine tu_take (i:=4) (listed':= #[tt,tt,tt,tt,tt,ff,ff,ff,ff,ff,ff,ff,ff,ff,ff,ff,ff,ff]) [11] rfl kqz kqz kqz kqz rfl rfl (o_load p46 rfl hsqz rfl) ?_;refine tu_env (d:=33) (v:= .pointer (some ⟨X.w,0,none⟩)) (rfl) ?_;refine tu_take (i:=5) (listed':= #[tt,tt,tt,tt,tt,tt,ff,ff,ff,ff,ff,ff,ff,ff,ff,ff,ff,ff]) [6,7,11] rfl kqz kqz kqz kqz rfl rfl (o_move wqz) ?_;refine tu_take (i:=6) (listed':= #[tt,tt,tt,tt,tt,tt,tt,ff,ff,ff,ff,ff,ff,ff,ff,ff,ff,ff]) [7,11] rfl kqz kqz kqz kqz rfl rfl (o_nilCheck rfl) ?_;refine tu_take (i:=7) (listed':= #[tt,tt,tt,tt,tt,tt,tt,tt,ff,ff,ff,ff,ff,ff,ff,ff,ff,ff]) [11] rfl kqz kqz kqz kqz rfl rfl (o_load p53 rfl hsqz rfl) ?_;refine tu_env (d:=36) (v:= .int .u32 ((r1:Nat):Int)) (rfl) ?_;refine tu_take (i:=8) (listed':= #[tt,tt,tt,tt,tt,tt,tt,tt,tt,ff,ff,ff,ff,ff,ff,ff,ff,ff]) [9,10,11] rfl kqz kqz kqz kqz rfl rfl (o_move wqz) ?_;refine tu_take (i:=9) (listed':= #[tt,tt,tt,tt,tt,tt,tt,tt,tt,tt,ff,ff,ff,ff,ff,ff,ff,ff]) [10,11] rfl kqz kqz kqz kqz rfl rfl (o_len underlying212 rfl) ?_;refine tu_take (i:=10) (listed':= #[tt,tt,tt,tt,tt,tt,tt,tt,tt,tt,tt,ff,ff,ff,ff,ff,ff,ff]) [11] rfl kqz kqz kqz kqz rfl rfl (o_subI rfl rfl oqz) ?_;refine tu_env (d:=39) (v:=(vn k)) (congrArg (Value.int .i64) oqz) ?_;refine tu_one (i:=11) kqz ?_;refine uk_c (S2:=R) (i:=11) (listed':= #[tt,tt,tt,tt,tt,tt,tt,tt,tt,tt,tt,tt,ff,ff,ff,ff,ff,ff]) rfl rfl rfl rfl (o_call bd30 rfl (Delete15_c (ho:=ho) (X:=X) (Y:=Y) (T:=T) (s:=s) (hok:=hok) (hb:=hb) (ref:=r1) (cell:=4) (ix:=((k:Nat):Int)) (nx:=((1:Nat):Int)) (hr1:=by omega) (hcell:=by decide) (hix:=by omega) (hnx:=by decide))) ?_;rintro _ _ ⟨rf40,e40,T40,Y40,hir40,rfl,hok40,rfl⟩;refine ⟨by repeat (first|with_reducible exact dr_refl|apply dr_keep|apply dr_drop), ?_⟩;rw [delR_tbl hI.g.t1 (by decide) hI.g.lt oqz,hd1] at hir40
    obtain ⟨rfl,h9⟩:=Prod.mk.inj hir40;obtain ⟨rfl,rfl⟩:=Prod.mk.inj h9;refine tm 12 rfl kqz rfl (o_move wqz) ?_;refine tm 13 rfl kqz rfl (o_extract rfl rfl) ?_;refine tm 14 rfl kqz rfl (o_extract rfl rfl) ?_;refine tm 15 rfl kqz rfl (o_nilCheck rfl) ?_;refine th_one (i:=16) kqz ?_;refine oh_u rfl rfl rfl (o_stU (l':=hisV X r2 r9) rfl upqz sz53 rfl rfl (by show 2<3;decide) rfl) drqz ?_;refine th_one (i:=17) kqz ?_;refine oh_u rfl rfl rfl (o_stU (l':=[.int .i64 0]) rfl upqz sz24 rfl rfl (by exact Nat.one_pos) rfl) drqz ?_;refine th_done kqz ?_;exact ⟨_,hok40,by repeat (first|exact tl_tls|exact tl_und|refine tl_upd ?_),rfl,rfl,rfl,rfl,rfl,rfl,drqz⟩
  intro ρ B hI;obtain ⟨Y9,hm0,hm1,hE0,hE2,hE4,hE10,hE11,hE12,hBA⟩:=hI;refine q_then_n ?_;refine tc_pre hBA.sat ?_;clear hBA;refine te 0 hE0 ?_;refine te 2 hE2 ?_;refine te 4 hE4 ?_;refine te 10 hE10 ?_;refine te 11 hE11 ?_;refine te 12 hE12 ?_;refine Zgm ?_;intro h;refine Ze ?_;refine Zb1 ?_;refine tc_cut (λ ρ BB=>∃ (Y8:WkY),(WkOk X Y8 T8 (s.ls.length*64))/\ (Tl 73 ρ (.agg #[pz hh,.agg #[.int .u32 ((r2:Nat):Int),.int .u32 ((r1:Nat):Int)],pz b11]))/\ ρ 10=(pz b10)/\ ρ 11=(pz b11)/\ ρ 12=(pz b12)/\ Dr BB (R*WkA X Y8 s*pt hh (cl (hisV X r8 r9) 136)*pt b10 (cl [.int .i64 0,.string ⟨#[]⟩,.string ⟨#[]⟩] 23)*pt b11 (cl [.int .i64 0] 24)*pt b12 (cl (Hen x) 247))) ?_ ?_
  . skip
    refine tc_regk 14 mo ?_
    show @TU (dfT 138) _ _ _ _ _ _ 21 (Array.replicate 21 false) _ _
    refine tu_pure (i:=0) (listed':= #[tt,ff,ff,ff,ff,ff,ff,ff,ff,ff,ff,ff,ff,ff,ff,ff,ff,ff,ff,ff,ff]) rfl kqz kqz kqz rfl rfl rfl (o_move wqz) ?_;refine tu_take (i:=1) (listed':= #[tt,tt,ff,ff,ff,ff,ff,ff,ff,ff,ff,ff,ff,ff,ff,ff,ff,ff,ff,ff,ff]) [2,3,4,14] rfl kqz kqz kqz kqz rfl rfl (o_move wqz) ?_;refine tu_take (i:=2) (listed':= #[tt,tt,tt,ff,ff,ff,ff,ff,ff,ff,ff,ff,ff,ff,ff,ff,ff,ff,ff,ff,ff]) [3,4,14] rfl kqz kqz kqz kqz rfl rfl (o_nilCheck rfl) ?_;refine tu_take (i:=3) (listed':= #[tt,tt,tt,tt,ff,ff,ff,ff,ff,ff,ff,ff,ff,ff,ff,ff,ff,ff,ff,ff,ff]) [4,14] rfl kqz kqz kqz kqz rfl rfl (o_fieldAddr (o:=0) underlying136 rfl rfl sz46 rfl) ?_;refine tu_take (i:=4) (listed':= #[tt,tt,tt,tt,tt,ff,ff,ff,ff,ff,ff,ff,ff,ff,ff,ff,ff,ff,ff,ff,ff]) [14] rfl kqz kqz kqz kqz rfl rfl (o_load p46 rfl hsqz rfl) ?_;refine tu_env (d:=53) (v:= .pointer (some ⟨X.w,0,none⟩)) (rfl) ?_;refine tu_take (i:=5) (listed':= #[tt,tt,tt,tt,tt,tt,ff,ff,ff,ff,ff,ff,ff,ff,ff,ff,ff,ff,ff,ff,ff]) [6,7,14] rfl kqz kqz kqz kqz rfl rfl (o_move wqz) ?_;refine tu_take (i:=6) (listed':= #[tt,tt,tt,tt,tt,tt,tt,ff,ff,ff,ff,ff,ff,ff,ff,ff,ff,ff,ff,ff,ff]) [7,14] rfl kqz kqz kqz kqz rfl rfl (o_nilCheck rfl) ?_;refine tu_take (i:=7) (listed':= #[tt,tt,tt,tt,tt,tt,tt,tt,ff,ff,ff,ff,ff,ff,ff,ff,ff,ff,ff,ff,ff]) [14] rfl kqz kqz kqz kqz rfl rfl (o_load p53 rfl hsqz rfl) ?_;refine tu_env (d:=56) (v:= .int .u32 ((r2:Nat):Int)) (rfl) ?_;refine tu_take (i:=8) (listed':= #[tt,tt,tt,tt,tt,tt,tt,tt,tt,ff,ff,ff,ff,ff,ff,ff,ff,ff,ff,ff,ff]) [9,14] rfl kqz kqz kqz kqz rfl rfl (o_move wqz) ?_;refine tu_take (i:=9) (listed':= #[tt,tt,tt,tt,tt,tt,tt,tt,tt,tt,ff,ff,ff,ff,ff,ff,ff,ff,ff,ff,ff]) [14] rfl kqz kqz kqz kqz rfl rfl (o_len underlying212 rfl) ?_;refine tu_take (i:=10) (listed':= #[tt,tt,tt,tt,tt,tt,tt,tt,tt,tt,tt,ff,ff,ff,ff,ff,ff,ff,ff,ff,ff]) [11,12,13,14] rfl kqz kqz kqz kqz rfl rfl (o_fieldAddr (o:=0) underlying247 rfl rfl sz53 rfl) ?_;refine tu_take (i:=11) (listed':= #[tt,tt,tt,tt,tt,tt,tt,tt,tt,tt,tt,tt,ff,ff,ff,ff,ff,ff,ff,ff,ff]) [12,13,14] rfl kqz kqz kqz kqz rfl rfl (o_load p53 rfl hsqz rfl) ?_;refine tu_env (d:=60) (v:= .int .u32 ((x.1+1:Nat):Int)) (rfl) ?_;refine tu_one (i:=12) kqz ?_;refine ou_c (i:=12) (listed':= #[tt,tt,tt,tt,tt,tt,tt,tt,tt,tt,tt,tt,tt,ff,ff,ff,ff,ff,ff,ff,ff]) rfl rfl rfl (o_call bd74 rfl (Put32_c (a:=none) (m:=0) (xs:=[]) (v:=x.1+1) (hr:=rs_none) (hm:=rfl))) ?_;rintro _ _ ⟨a61,c61,rfl,hc61,rfl⟩;refine ⟨by repeat (first|with_reducible exact dr_refl|apply dr_keep|apply dr_drop), ?_⟩;refine tu_env (d:=61) (v:= .slice a61 4 c61) (rfl) ?_;refine tu_one (i:=13) kqz ?_;refine ou_x (i:=13) (listed':= #[tt,tt,tt,tt,tt,tt,tt,tt,tt,tt,tt,tt,tt,tt,ff,ff,ff,ff,ff,ff,ff]) rfl rfl rfl (o_buildSliceL (vs:=[.slice a61 4 c61]) (l:=[.slice a61 4 c61]) underlying35 sz67 z67 rfl rfl (by decide) (by decide) (by intro v hv;simp only [List.mem_singleton] at hv;subst hv;rfl) rfl) ?_;rintro _ _ ⟨b62,rfl,rfl⟩;refine Zho ?_;refine uk_c (S2:=R) (i:=14) (listed':= #[tt,tt,tt,tt,tt,tt,tt,tt,tt,tt,tt,tt,tt,tt,tt,ff,ff,ff,ff,ff,ff]) rfl rfl rfl rfl (o_call bd28 rfl (Insert15_c (ho:=ho) (X:=X) (Y:=Y9) (T:=T9) (s:=s) (hok:=hm0) (hb:=hb) (ref:=r2) (cell:=4) (ix:=((rs.length:Nat):Int)) (rows:=[le 4 (x.1+1)]) (rv:=[.slice a61 4 c61]) (ar:=some ⟨b62,0,none⟩) (cr:=1) (hr1:=by omega) (hcell:=by decide) (hix:=by omega) (hrr:=by repeat (first|exact rs_pt rfl|apply Rs.left)) (hrw:=⟨rfl,λ j hj=>match j,hj with|0,_=>⟨_,_,rfl,(by show Rs _ _ (bys ([]++le 4 (x.1+1)));repeat (first|with_reducible exact rs_sl|apply Rs.left))⟩⟩) (hrc:=λ y hy=>by rw [List.mem_singleton] at hy;rw [hy];exact ⟨le_length _ _,le_bytes _ _⟩) (hrn:=by show 1<=65536;decide))) ?_;rintro _ _ ⟨rf63,e63,T63,Y63,hir63,rfl,hok63,rfl⟩;refine ⟨by repeat (first|with_reducible exact dr_refl|apply dr_keep|apply dr_drop), ?_⟩;rw [insR_tbl hd2.t2 (by decide) hd2.lt oqz,hi1] at hir63
    obtain ⟨rfl,h9⟩:=Prod.mk.inj hir63;obtain ⟨rfl,rfl⟩:=Prod.mk.inj h9;refine tm 15 rfl kqz rfl (o_move wqz) ?_;refine Zfz ?_;refine tm 18 rfl kqz rfl (o_nilCheck rfl) ?_;refine th_one (i:=19) kqz ?_;refine oh_u rfl rfl rfl (o_stU (l':=hisV X r8 r9) rfl upqz sz53 rfl rfl (by show 1<3;decide) rfl) drqz ?_;refine th_one (i:=20) kqz ?_;refine oh_u rfl rfl rfl (o_stU (l':=[.int .i64 0]) rfl upqz sz24 rfl rfl (by exact Nat.one_pos) rfl) drqz ?_;refine th_done kqz ?_;exact ⟨_,hok63,by repeat (first|exact tl_tls|exact tl_und|assumption|refine tl_upd ?_),rfl,rfl,rfl,drqz⟩
  intro ρ B hI;obtain ⟨Y8,hq0,hq1,hE10,hE11,hE12,hBA⟩:=hI;refine q_then_n ?_;refine tc_pre hBA.sat ?_;clear hBA;refine te 10 hE10 ?_;refine te 11 hE11 ?_;refine te 12 hE12 ?_;refine Zgm ?_;intro h;refine Zgy ?_;refine tv (o_fieldAddr (o:=1) underlying247 rfl rfl sz23 rfl) ?_;refine tv (o_loadN (vs:=x.2.cells) a23 sz23 rfl hsqz (by show 1+3<=4;decide) rfl) ?_;refine tl_u rfl (o_stUN (l':=x.2.cells) rfl upqz sz23 rfl rfl rfl (by exact Nat.le_refl 3) rfl) ?_;refine tl_u rfl (o_stU (l':=[.int .i64 0]) rfl upqz sz24 rfl rfl (by exact Nat.one_pos) rfl) ?_;refine Zhr ?_;refine .inr ⟨_,by repeat (first|exact tl_tls|exact tl_und|assumption|refine tl_upd ?_),(keep21_d (hih:=(by repeat (first|exact has_here|apply has_left))) (he:=(by repeat (first|exact has_here|apply has_left)))).mono ?_⟩;rintro _ _ rfl;exact ⟨.tuple #[.agg (Hcg.cells x.2).toArray,.int .i64 0],C (WkA X Y8 s) (pt hh (cl (hisV X r8 r9) 136)),resA2 rfl (rv_cell a23 sz23 rfl hsqz (by show 0+3<=3;decide) rfl) (rv_cell1 p24 rfl hsqz rfl),(λ g w h=>by rw [hC];exact Dr.sat (A':=R*WkA X Y8 s*pt hh (cl (hisV X r8 r9) 136)) drqz g w h),_,_,_,_,_,_,_,_,_,_,hmv,rfl,hI9,hq0,rfl⟩
end Go.Vl

namespace Go.Vl
open Go Go.Proofs Go.Proofs.Tryz
def PshS (us rs:List (Nat×Hcg))(c:Hcg)(us3 rs3:List (Nat×Hcg))(e:Int):Prop:=
  (mayC c=false/\ e=211/\ us3=us/\ rs3=rs)∨(mayC c=true/\ e=0/\ rs3=[]/\∃b,us3=us.drop (us.length-15)++[(b,c)])
attribute [local irreducible] crk crL crc Sl pt ro Dev imgS recS readS recsF rdW rdO rkT Parts rvl recordsS runsL adrF kcl xcl kys runA runsF layF ovF TxA adZ WkA comS conB rootV ptsV
theorem Zhj {p r:Prop}(k:r)(h:Kq r->p:=by intro k;refine tm 2 rfl kqz rfl (o_nilCheck rfl) ?_;refine tm 3 rfl kqz rfl (o_fieldAddr (o:=1) underlying136 rfl rfl sz134 rfl) ?_;exact k.o):p:=h ⟨k⟩
theorem Zic {p r:Prop}(k:r)(h:Kq r->p:=by intro k;refine ⟨by repeat (first|with_reducible exact dr_refl|apply dr_keep|apply dr_drop), ?_⟩;refine Zek ?_;exact k.o):p:=h ⟨k⟩
theorem Undo21_c {A R:SP}{C:SP->SP->SP}{X:WkX}{Y:WkY}{T:WkT}{s:DevS}{r1 r2 hh:Nat}(hc:Ct2 A (WkA X Y s) (pt hh (cl (hisV X r1 r2) 136)) R C:=by repeat (first|with_reducible exact ct2_r ctqz|with_reducible exact ct2_l ctqz|apply ct2_left))(hok:WkOk X Y T (s.ls.length*64))(hb:WkB X s)(ho:s.off=false:=by assumption){l1 l2:List (Nat×List (List Nat))}{us rs:List (Nat×Hcg)}(hI:HsI X.n X.ba s T r1 l1 r2 l2 us rs)(hn16:us.length+rs.length<=16)(hroom:7+us.length+rs.length<=X.n):
    Fn Tryz.prog 42 #[pz hh] A (λ r B=>∃r3 r4 l3 l4 us3 rs3 c3 e3 Y3 T3,movS us rs=(us3,rs3,c3,e3)/\ r= .tuple #[.agg (Hcg.cells c3).toArray,.int .i64 e3]/\ HsI X.n X.ba s T3 r3 l3 r4 l4 us3 rs3/\ WkOk X Y3 T3 (s.ls.length*64)/\ B=C (WkA X Y3 s) (pt hh (cl (hisV X r3 r4) 136))):=by
  refine fn_enterW func42 rfl ntmps42 (by simp) ?_;obtain ⟨hb1,hb2,hb3⟩:=id hb;obtain ⟨rfl,hC⟩:=hc;refine tc_have (λ _ _ h=>txa_wf (wka_txa (ct_left ct_here)) _ _ h) λ hwf=> ?_
  have hXn:X.n<=16384:=(by omega);have hin:∀b,b<X.n->X.ba+256*b+256<=(imgS s).length:=λ b hb9=>by rw [imgS_len hwf];omega
  have hul:(us++rs).length=us.length+rs.length:=List.length_append;obtain ⟨hR1,hR2⟩:=hI.g.ref;obtain ⟨⟨hL1,hL2⟩,hL3,hL4⟩:=hI.lens oqz oqz;have hbl9:((us++rs).map blC).length=us.length+rs.length:=(by rw [List.length_map,hul]);refine sr ?_;refine tl_x rfl (o_alloc (l:=[.int .i64 0,.string ⟨#[]⟩,.string ⟨#[]⟩]) z23 rfl) ?_;rintro _ _ ⟨b2,rfl,rfl⟩;refine Zbu ?_;refine tl_c rfl (o_call bd136 rfl (Hread_c (ho:=ho) (X:=X) (Y:=Y) (T:=T) (s:=s) (hok:=hok) (hb:=hb) (r1:=r1) (r2:=r2) (hI:=hI) (hn16:=hn16) (hih:=(by repeat (first|exact hih|exact has_here|apply has_left))))) ?_;rintro _ _ ⟨au9,cu9,ar9,cr9,rfl,hl9,rfl⟩;refine Zf6 ?_;refine Zbo ?_;refine Zz ?_;intro h;refine Zdv ?_;refine tc_regh (S:=R) mo drqz ?_
  show TH _ _ _ _ _ 16 (Array.replicate 16 false) _ _
  refine Zc8 ?_;refine Zhj ?_;refine tm 4 rfl kqz rfl (o_fieldAddr (o:=0) underlying134 rfl rfl sz53 rfl) ?_;refine Ze1 ?_;refine tm 7 rfl kqz rfl (o_fieldAddr (o:=1) underlying136 rfl rfl sz134 rfl) ?_;refine tm 8 rfl kqz rfl (o_fieldAddr (o:=1) underlying134 rfl rfl sz53 rfl) ?_;refine tm 9 rfl kqz rfl (o_move wqz) ?_;refine tm 10 rfl kqz rfl (o_move wqz) ?_;refine th_one (i:=11) kqz ?_;refine oh_c rfl rfl rfl (o_call bd137 rfl (move21_u (ho:=ho) (X:=X) (Y:=Y) (T:=T) (s:=s) (hok:=hok) (hb:=hb) (r1:=r1) (r2:=r2) (hI:=hI) (hn16:=by omega) (hroom:=by omega) (hr:=(by repeat (first|with_reducible exact rs_sl|apply Rs.left))) (hcu:=hl9.1))) ?_;rintro _ _ ⟨r3,r4,l3,l4,us3,rs3,c3,e3,Y3,T3,hmv,rfl,hI3,hok3,rfl⟩;refine Zic ?_;refine th_one (i:=14) kqz ?_;refine oh_u rfl rfl rfl (o_stUN (l':=Hcg.cells c3) rfl upqz sz23 rfl rfl rfl (by exact Nat.le_refl 3) rfl) drqz ?_;refine tm 15 rfl kqz rfl (o_assign wqz) ?_;refine Zbs ?_;refine tc_ret ?_;exact ⟨.tuple #[.agg (Hcg.cells c3).toArray,.int .i64 e3],C (WkA X Y3 s) (pt hh (cl (hisV X r3 r4) 136)),resA2 rfl (rv_cell a23 sz23 rfl hsqz (by show 0+3<=3;decide) rfl) (rv_tmp rfl),(λ g w h=>by rw [hC];exact Dr.sat (A':=R*WkA X Y3 s*pt hh (cl (hisV X r3 r4) 136)) drqz g w h),_,_,_,_,_,_,_,_,_,_,hmv,rfl,hI3,hok3,rfl⟩
theorem Redo21_c {A R:SP}{C:SP->SP->SP}{X:WkX}{Y:WkY}{T:WkT}{s:DevS}{r1 r2 hh:Nat}(hc:Ct2 A (WkA X Y s) (pt hh (cl (hisV X r1 r2) 136)) R C:=by repeat (first|with_reducible exact ct2_r ctqz|with_reducible exact ct2_l ctqz|apply ct2_left))(hok:WkOk X Y T (s.ls.length*64))(hb:WkB X s)(ho:s.off=false:=by assumption){l1 l2:List (Nat×List (List Nat))}{us rs:List (Nat×Hcg)}(hI:HsI X.n X.ba s T r1 l1 r2 l2 us rs)(hn16:us.length+rs.length<=16)(hroom:7+us.length+rs.length<=X.n):
    Fn Tryz.prog 43 #[pz hh] A (λ r B=>∃r3 r4 l3 l4 us3 rs3 c3 e3 Y3 T3,movS rs us=(rs3,us3,c3,e3)/\ r= .tuple #[.agg (Hcg.cells c3).toArray,.int .i64 e3]/\ HsI X.n X.ba s T3 r3 l3 r4 l4 us3 rs3/\ WkOk X Y3 T3 (s.ls.length*64)/\ B=C (WkA X Y3 s) (pt hh (cl (hisV X r3 r4) 136))):=by
  refine fn_enterW func43 rfl ntmps43 (by simp) ?_;obtain ⟨hb1,hb2,hb3⟩:=id hb;obtain ⟨rfl,hC⟩:=hc;refine tc_have (λ _ _ h=>txa_wf (wka_txa (ct_left ct_here)) _ _ h) λ hwf=> ?_
  have hXn:X.n<=16384:=(by omega);have hin:∀b,b<X.n->X.ba+256*b+256<=(imgS s).length:=λ b hb9=>by rw [imgS_len hwf];omega
  have hul:(us++rs).length=us.length+rs.length:=List.length_append;obtain ⟨hR1,hR2⟩:=hI.g.ref;obtain ⟨⟨hL1,hL2⟩,hL3,hL4⟩:=hI.lens oqz oqz;have hbl9:((us++rs).map blC).length=us.length+rs.length:=(by rw [List.length_map,hul]);refine sr ?_;refine tl_x rfl (o_alloc (l:=[.int .i64 0,.string ⟨#[]⟩,.string ⟨#[]⟩]) z23 rfl) ?_;rintro _ _ ⟨b2,rfl,rfl⟩;refine Zbu ?_;refine tl_c rfl (o_call bd136 rfl (Hread_c (ho:=ho) (X:=X) (Y:=Y) (T:=T) (s:=s) (hok:=hok) (hb:=hb) (r1:=r1) (r2:=r2) (hI:=hI) (hn16:=hn16) (hih:=(by repeat (first|exact hih|exact has_here|apply has_left))))) ?_;rintro _ _ ⟨au9,cu9,ar9,cr9,rfl,hl9,rfl⟩;refine Zf6 ?_;refine Zbo ?_;refine Zz ?_;intro h;refine Zdv ?_;refine tc_regh (S:=R) mo drqz ?_
  show TH _ _ _ _ _ 16 (Array.replicate 16 false) _ _
  refine Zc8 ?_;refine Zhj ?_;refine tm 4 rfl kqz rfl (o_fieldAddr (o:=1) underlying134 rfl rfl sz53 rfl) ?_;refine Ze1 ?_;refine tm 7 rfl kqz rfl (o_fieldAddr (o:=1) underlying136 rfl rfl sz134 rfl) ?_;refine tm 8 rfl kqz rfl (o_fieldAddr (o:=0) underlying134 rfl rfl sz53 rfl) ?_;refine tm 9 rfl kqz rfl (o_move wqz) ?_;refine tm 10 rfl kqz rfl (o_move wqz) ?_;refine th_one (i:=11) kqz ?_;refine oh_c rfl rfl rfl (o_call bd137 rfl (move21_r (ho:=ho) (X:=X) (Y:=Y) (T:=T) (s:=s) (hok:=hok) (hb:=hb) (r1:=r2) (r2:=r1) (hI:=hI.swap) (hn16:=by omega) (hroom:=by omega) (hr:=(by repeat (first|with_reducible exact rs_sl|apply Rs.left))) (hcu:=hl9.2))) ?_;rintro _ _ ⟨r3,r4,l3,l4,us3,rs3,c3,e3,Y3,T3,hmv,rfl,hI3,hok3,rfl⟩;refine Zic ?_;refine th_one (i:=14) kqz ?_;refine oh_u rfl rfl rfl (o_stUN (l':=Hcg.cells c3) rfl upqz sz23 rfl rfl rfl (by exact Nat.le_refl 3) rfl) drqz ?_;refine tm 15 rfl kqz rfl (o_assign wqz) ?_;refine Zbs ?_;refine tc_ret ?_;exact ⟨.tuple #[.agg (Hcg.cells c3).toArray,.int .i64 e3],C (WkA X Y3 s) (pt hh (cl (hisV X r4 r3) 136)),resA2 rfl (rv_cell a23 sz23 rfl hsqz (by show 0+3<=3;decide) rfl) (rv_tmp rfl),(λ g w h=>by rw [hC];exact Dr.sat (A':=R*WkA X Y3 s*pt hh (cl (hisV X r4 r3) 136)) drqz g w h),_,_,_,_,_,_,_,_,_,_,hmv,rfl,hI3.swap,hok3,rfl⟩
theorem Push21_c {A R:SP}{C:SP->SP->SP}{X:WkX}{Y:WkY}{T:WkT}{s:DevS}{r1 r2 hh:Nat}(hc:Ct2 A (WkA X Y s) (pt hh (cl (hisV X r1 r2) 136)) R C:=by repeat (first|with_reducible exact ct2_r ctqz|with_reducible exact ct2_l ctqz|apply ct2_left))(hok:WkOk X Y T (s.ls.length*64))(hb:WkB X s)(ho:s.off=false:=by assumption){l1 l2:List (Nat×List (List Nat))}{us rs:List (Nat×Hcg)}(hI:HsI X.n X.ba s T r1 l1 r2 l2 us rs)(hn16:us.length+rs.length<=16)(hroom:7+us.length+rs.length<=X.n){c:Hcg}(hcw:HcgW c)(hps:mayC c=true->(packB c).size<=248):
    Fn Tryz.prog 45 #[pz hh,.agg c.cells.toArray] A (λ r B=>∃r3 r4 l3 l4 us3 rs3 e3 Y3 T3,PshS us rs c us3 rs3 e3/\ r= .int .i64 e3/\ HsI X.n X.ba s T3 r3 l3 r4 l4 us3 rs3/\ WkOk X Y3 T3 (s.ls.length*64)/\ B=C (WkA X Y3 s) (pt hh (cl (hisV X r3 r4) 136))):=by
  refine fn_enterD (args:=[pz hh,.agg c.cells.toArray]) func45 rfl ntmps45 (by simp) bd138 (by repeat (first|exact tl_tls|exact tl_und|assumption|refine tl_upd ?_)) ?_;obtain ⟨hb1,hb2,hb3⟩:=id hb;obtain ⟨rfl,hC⟩:=hc;refine tc_have (λ _ _ h=>txa_wf (wka_txa (ct_left ct_here)) _ _ h) λ hwf=> ?_
  have hXn:X.n<=16384:=(by omega);have hin:∀b,b<X.n->X.ba+256*b+256<=(imgS s).length:=λ b hb9=>by rw [imgS_len hwf];omega
  have hul:(us++rs).length=us.length+rs.length:=List.length_append;obtain ⟨hR1,hR2⟩:=hI.g.ref;obtain ⟨⟨hL1,hL2⟩,hL3,hL4⟩:=hI.lens oqz oqz;have hbl9:((us++rs).map blC).length=us.length+rs.length:=(by rw [List.length_map,hul]);refine sr ?_;refine tl_x rfl (o_box rfl (l:=c.cells) rfl) ?_;rintro _ _ ⟨b3,rfl,rfl⟩;refine tl_x rfl (o_alloc (l:=[.int .i64 0]) z24 rfl) ?_;rintro _ _ ⟨b4,rfl,rfl⟩;refine nq ?_;refine Zb ?_;refine tl_c rfl (o_call bd136 rfl (Hread_c (ho:=ho) (X:=X) (s:=s) (hb:=hb) (Y:=Y) (T:=T) (hok:=hok) (r1:=r1) (r2:=r2) (hI:=hI) (hn16:=hn16) (hih:=(by repeat (first|exact hih|exact has_here|apply has_left))))) ?_;rintro _ _ ⟨au11,cu11,ar11,cr11,rfl,hl11,rfl⟩;obtain ⟨hl11a,hl11b⟩:=hl11;refine Zf6 ?_;refine tla ?_;refine tl_u rfl (o_stU (l':=[.int .i64 (0)]) rfl upqz sz24 rfl rfl (by exact Nat.one_pos) rfl) ?_;refine Zhq ?_;refine Zgm ?_;intro h;refine Zgy ?_;refine tv (o_loadN (vs:=c.cells) a23 sz23 rfl hsqz (by exact Nat.le_refl 3) rfl) ?_;refine tl_c rfl (o_call bd14 rfl (Pack21_c (c:=c) (hc:=hcw))) ?_;rintro _ _ ⟨rfl,rfl⟩;refine Zbe ?_;refine tla ?_;refine tl_u rfl (o_stU (l':=[.int .i64 (if mayC c=true then 0 else 211)]) rfl upqz sz24 rfl rfl (by exact Nat.one_pos) rfl) ?_;refine Zhq ?_;refine Zbh ?_;refine Zbv ?_;refine tc_cond rfl (λ h=> ?_) (λ h=> ?_)
  . have hm:mayC c=false:=by cases hm9:mayC c with
    |false=>rfl
    |true=>rw [hm9] at h;simp at h
    refine Zbh ?_;refine tl_u rfl (o_stU (l':=[.int .i64 (if mayC c=true then 0 else 211)]) rfl upqz sz24 rfl rfl (by exact Nat.one_pos) rfl) ?_;refine Zhr ?_;refine q_then_r ?_;exact .inl ⟨by repeat (first|exact tl_tls|exact tl_und|assumption|refine tl_upd ?_),.int .i64 (if mayC c=true then 0 else 211),C (WkA X Y s) (pt hh (cl (hisV X r1 r2) 136)),resA1 rfl (rv_cell1 p24 rfl hsqz rfl),(λ g w h=>by rw [hC];exact Dr.sat (A':=R*WkA X Y s*pt hh (cl (hisV X r1 r2) 136)) drqz g w h),_,_,_,_,_,_,_,_,_,.inl ⟨hm,by rw [if_neg (by rw [hm];decide)],rfl,rfl⟩,rfl,hI,hok,rfl⟩
  have hm:mayC c=true:=by cases hm9:mayC c with
    |true=>rfl
    |false=>rw [hm9] at h;simp at h
  have hpsz:=hps hm;refine tc_env (d:=7) (v:= .string (packB c)) (by show Value.string (if mayC c=true then packB c else ⟨#[]⟩)=_;rw [if_pos hm]) ?_;have hG0:=hI.g.perm (bl2:=rs.map blC++us.map blC) (by rw [List.map_append];exact List.perm_append_comm);have hc1:=hI.c1;have hfl1:(flatP (asP l1)).length=us.length:=(by rw [hc1,List.length_map]);have hub:(us.map blC).length=us.length:=List.length_map ..;have hsp:(sbys (packB c)).length=(packB c).size:=sbys_len _;have hsz9:=pack_size c;refine Zeb ?_;refine Zed ?_;refine tv (o_loadN (vs:=[.int .u32 ((r1:Nat):Int),.int .u32 ((r2:Nat):Int)]) a134 sz134 rfl hsqz (by show 1+2<=3;decide) rfl) ?_;refine tl_d ([pz hh,.agg #[.int .u32 ((r1:Nat):Int),.int .u32 ((r2:Nat):Int)],pz b4]) (by repeat (first|exact tl_tls|exact tl_und|assumption|refine tl_upd ?_)) rfl ?_;refine Zh3 ?_;refine tlm ?_;refine tl_c rfl (o_call bd139 rfl (drop21_c (ho:=ho) (X:=X) (s:=s) (hb:=hb) (Y:=Y) (T:=T) (hok:=hok) (hG:=hG0) (hr:=(by repeat (first|with_reducible exact rs_sl|apply Rs.left))) (hm:=rfl) (hm16:=by omega) (hih:=(by repeat (first|exact hih|exact has_here|apply has_left))))) ?_;rintro _ _ ⟨Y33,T33,rfl,hG33,hok33,rfl⟩;refine tl_u rfl (o_stU (l':=[.int .i64 (0)]) rfl upqz sz24 rfl rfl (by exact Nat.one_pos) rfl) ?_;refine nq ?_;refine Zgm ?_;intro h;refine Ze ?_;refine Zb1 ?_;refine tc_regh (S:=R*pt hh (cl (hisV X r1 r2) 136)) mo drqz ?_
  show @TH (dfT 138) _ _ _ _ _ 11 (Array.replicate 11 false) _ _
  refine Zdl ?_;refine tm 3 rfl kqz rfl (o_load p46 rfl hsqz rfl) ?_;refine th_env (d:=40) (v:= .pointer (some ⟨X.w,0,none⟩)) (rfl) ?_;refine Zeg ?_;refine tm 7 rfl kqz rfl (o_fieldAddr (o:=1) underlying134 rfl rfl sz53 rfl) ?_;refine tm 8 rfl kqz rfl (o_load p53 rfl hsqz rfl) ?_;refine th_env (d:=45) (v:= .int .u32 ((r2:Nat):Int)) (rfl) ?_;refine th_one (i:=9) kqz ?_;refine oh_c rfl rfl rfl (o_call bd37 rfl (Drop15_c (ho:=ho) (X:=X) (s:=s) (hb:=hb) (Y:=Y33) (T:=T33) (hok:=hok33) (ref:=r2) (cell:=4) (hr1:=by omega) (hcell:=by decide))) ?_;rintro _ _ ⟨l46,e46,Y46,hp46,rfl,hok46,rfl⟩;refine ⟨by repeat (first|with_reducible exact dr_refl|apply dr_keep|apply dr_drop), ?_⟩;rw [partsR_tbl hG33.t2 (by decide) (by have:=tbl_few hG33.t2 hG33.lt;omega)] at hp46
  obtain ⟨rfl,rfl⟩:=Prod.mk.inj hp46;have hG46:=hG33.swap.dropt.swap;refine th_one (i:=10) kqz ?_;refine oh_u rfl rfl rfl (o_stU (l':=[.int .i64 (0)]) rfl upqz sz24 rfl rfl (by exact Nat.one_pos) rfl) drqz ?_;refine Zbs ?_;refine Zgm ?_;intro h;refine Ze6 ?_;refine tv (o_fieldAddr (o:=1) underlying136 rfl rfl sz134 rfl) ?_;refine tv (o_fieldAddr (o:=1) underlying134 rfl rfl sz53 rfl) ?_;refine tl_u rfl (o_stU (l':=hisV X r1 0) rfl upqz sz53 rfl rfl (by show 2<3;decide) rfl) ?_;refine Zh3 ?_;refine tv (o_len underlying212 rfl) ?_;refine Zcr ?_;refine tc_cut (λ ρ BB=>∃ (Y7:WkY) (T7:WkT) (r7:Nat) (l7:List (Nat×List (List Nat))) (us5:List (Nat×Hcg)) (a5:Option Addr) (c5:Nat),(WkOk X Y7 T7 (s.ls.length*64))/\ (HsG X.n X.ba s T7 r7 l7 0 [] (us5.map blC))/\ (flatP (asP l7)=us5.map refC)/\ (us.drop (us.length-15)=us5)/\ (us5.length<=15/\ us5.length<=us.length)/\ (Tl 121 ρ (.agg #[pz hh,.agg #[.int .u32 ((r1:Nat):Int),.int .u32 ((r2:Nat):Int)],pz b4]))/\ ρ 5= .slice a5 us5.length c5/\ ρ 0=(pz hh)/\ ρ 4=(pz b4)/\ ρ 7= .string (packB c)/\ Dr BB (R*WkA X Y7 s*pt hh (cl (hisV X r7 0) 136)*pt b4 (cl [.int .i64 0] 24))) ?_ ?_
  . skip
    refine tc_cond rfl (λ h=> ?_) (λ h=> ?_)
    . have hu16:us.length=16:=(by first|omega|(simp at h;omega))
      obtain ⟨u0,us1,hus⟩:∃u0 us1,us=u0::us1:=by
        cases us with
        |nil=>simp at hu16
        |cons x l=>exact ⟨x,l,rfl⟩
      have hul1:us1.length=15:=(by rw [hus,List.length_cons] at hu16;omega);have hdr:us.drop (us.length-15)=us1:=(by rw [hu16,hus];rfl);rw [hus,List.map_cons] at hG46
      have htk9:(hens us).take 4=hens [u0]:=(by rw [hus];show (hens (u0::us1)).take 4=_;rw [show hens (u0::us1)=Hen u0++hens us1 from List.flatMap_cons ..];rfl);refine Zl ?_;refine tlm ?_;refine tv (o_slice (l:=0) (h:=1) underlying212 sz247 rfl bnd_none (bnd_nat rfl) oqz oqz) ?_;refine tl_env (d:=59) (v:= .slice au11 1 cu11) (by show Value.slice (cutAddr au11 cu11 0 4) (1-0) (cu11-0)=_;rw [show cutAddr au11 cu11 0 4=au11 by unfold cutAddr;cases au11<;>simp [Addr.add]];rfl) ?_;refine tl_c rfl (o_call bd139 rfl (drop21_c (ho:=ho) (X:=X) (s:=s) (hb:=hb) (Y:=Y46) (hok:=hok46) (es:=[u0]) (bl:=us1.map blC) (hG:=hG46) (hr:=by rw [←htk9];exact Rs.sub sq0z 4) (hm:=rfl) (hm16:=by decide) (hih:=(by repeat (first|exact hih|exact has_here|apply has_left))))) ?_;rintro _ _ ⟨Y60,T60,rfl,hG60,hok60,rfl⟩;obtain ⟨r5,T5,l5,hd1,hd2,hd3⟩:=hG60.del (i:=0) (k:=1) hin oqz (by rw [List.length_map,List.length_nil];omega) oqz;have hd4:flatP (asP l5)=us1.map refC:=(by rw [hd3,hc1,hus];rfl);refine tl_u rfl (o_stU (l':=[.int .i64 (0)]) rfl upqz sz24 rfl rfl (by exact Nat.one_pos) rfl) ?_;refine nq ?_;refine Zgm ?_;intro h;refine Ze ?_;refine Zb1 ?_;refine tc_cut (λ ρ BB=>∃ (Y9:WkY),(WkOk X Y9 T5 (s.ls.length*64))/\ (Tl 121 ρ (.agg #[pz hh,.agg #[.int .u32 ((r1:Nat):Int),.int .u32 ((r2:Nat):Int)],pz b4]))/\ ρ 0=(pz hh)/\ ρ 4=(pz b4)/\ ρ 5= .slice au11 us.length cu11/\ ρ 7= .string (packB c)/\ Dr BB (R*WkA X Y9 s*pt hh (cl (hisV X r5 0) 136)*pt b4 (cl [.int .i64 0] 24))) ?_ ?_
      . skip
        refine tc_regk 10 mo ?_
        show @TU (dfT 138) _ _ _ _ _ _ 19 (Array.replicate 19 false) _ _
        refine tu_pure (i:=0) (listed':= #[tt,ff,ff,ff,ff,ff,ff,ff,ff,ff,ff,ff,ff,ff,ff,ff,ff,ff,ff]) rfl kqz kqz kqz rfl rfl rfl (o_move wqz) ?_;refine tu_take (i:=1) (listed':= #[tt,tt,ff,ff,ff,ff,ff,ff,ff,ff,ff,ff,ff,ff,ff,ff,ff,ff,ff]) [2,3,4,10] rfl kqz kqz kqz kqz rfl rfl (o_move wqz) ?_;refine tu_take (i:=2) (listed':= #[tt,tt,tt,ff,ff,ff,ff,ff,ff,ff,ff,ff,ff,ff,ff,ff,ff,ff,ff]) [3,4,10] rfl kqz kqz kqz kqz rfl rfl (o_nilCheck rfl) ?_;refine tu_take (i:=3) (listed':= #[tt,tt,tt,tt,ff,ff,ff,ff,ff,ff,ff,ff,ff,ff,ff,ff,ff,ff,ff]) [4,10] rfl kqz kqz kqz kqz rfl rfl (o_fieldAddr (o:=0) underlying136 rfl rfl sz46 rfl) ?_;refine tu_take (i:=4) (listed':= #[tt,tt,tt,tt,tt,ff,ff,ff,ff,ff,ff,ff,ff,ff,ff,ff,ff,ff,ff]) [10] rfl kqz kqz kqz kqz rfl rfl (o_load p46 rfl hsqz rfl) ?_;refine tu_env (d:=69) (v:= .pointer (some ⟨X.w,0,none⟩)) (rfl) ?_;refine tu_take (i:=5) (listed':= #[tt,tt,tt,tt,tt,tt,ff,ff,ff,ff,ff,ff,ff,ff,ff,ff,ff,ff,ff]) [6,7,8,9,10] rfl kqz kqz kqz kqz rfl rfl (o_move wqz) ?_;refine tu_take (i:=6) (listed':= #[tt,tt,tt,tt,tt,tt,tt,ff,ff,ff,ff,ff,ff,ff,ff,ff,ff,ff,ff]) [7,8,9,10] rfl kqz kqz kqz kqz rfl rfl (o_nilCheck rfl) ?_;refine tu_take (i:=7) (listed':= #[tt,tt,tt,tt,tt,tt,tt,tt,ff,ff,ff,ff,ff,ff,ff,ff,ff,ff,ff]) [8,9,10] rfl kqz kqz kqz kqz rfl rfl (o_fieldAddr (o:=1) underlying136 rfl rfl sz134 rfl) ?_;refine tu_take (i:=8) (listed':= #[tt,tt,tt,tt,tt,tt,tt,tt,tt,ff,ff,ff,ff,ff,ff,ff,ff,ff,ff]) [9,10] rfl kqz kqz kqz kqz rfl rfl (o_fieldAddr (o:=0) underlying134 rfl rfl sz53 rfl) ?_;refine tu_take (i:=9) (listed':= #[tt,tt,tt,tt,tt,tt,tt,tt,tt,tt,ff,ff,ff,ff,ff,ff,ff,ff,ff]) [10] rfl kqz kqz kqz kqz rfl rfl (o_load p53 rfl hsqz rfl) ?_;refine tu_env (d:=74) (v:= .int .u32 ((r1:Nat):Int)) (rfl) ?_;refine tu_one (i:=10) kqz ?_;refine uk_c (S2:=R) (i:=10) (listed':= #[tt,tt,tt,tt,tt,tt,tt,tt,tt,tt,tt,ff,ff,ff,ff,ff,ff,ff,ff]) rfl rfl rfl rfl (o_call bd30 rfl (Delete15_c (ho:=ho) (X:=X) (s:=s) (hb:=hb) (Y:=Y60) (T:=T60) (hok:=hok60) (ref:=r1) (cell:=4) (ix:=((0:Nat):Int)) (nx:=((1:Nat):Int)) (hr1:=by omega) (hcell:=by decide) (hix:=by decide) (hnx:=by decide))) ?_;rintro _ _ ⟨rf75,e75,T75,Y75,hir75,rfl,hok75,rfl⟩;refine ⟨by repeat (first|with_reducible exact dr_refl|apply dr_keep|apply dr_drop), ?_⟩;rw [delR_tbl hG60.t1 (by decide) hG60.lt oqz,hd1] at hir75
        obtain ⟨rfl,h9⟩:=Prod.mk.inj hir75;obtain ⟨rfl,rfl⟩:=Prod.mk.inj h9;refine tm 11 rfl kqz rfl (o_move wqz) ?_;refine Zek ?_;refine tm 14 rfl kqz rfl (o_nilCheck rfl) ?_;refine tm 15 rfl kqz rfl (o_fieldAddr (o:=1) underlying136 rfl rfl sz134 rfl) ?_;refine tm 16 rfl kqz rfl (o_fieldAddr (o:=0) underlying134 rfl rfl sz53 rfl) ?_;refine th_one (i:=17) kqz ?_;refine oh_u rfl rfl rfl (o_stU (l':=hisV X r5 0) rfl upqz sz53 rfl rfl (by show 1<3;decide) rfl) drqz ?_;refine th_one (i:=18) kqz ?_;refine oh_u rfl rfl rfl (o_stU (l':=[.int .i64 (0)]) rfl upqz sz24 rfl rfl (by exact Nat.one_pos) rfl) drqz ?_;refine th_done kqz ?_;exact ⟨_,hok75,by repeat (first|exact tl_tls|exact tl_und|assumption|refine tl_upd ?_),rfl,rfl,rfl,rfl,drqz⟩
      intro ρ B hI;obtain ⟨Y9,hm0,hm1,hE0,hE4,hE5,hE7,hBA⟩:=hI;refine q_then_n ?_;refine tc_pre hBA.sat ?_;clear hBA;refine te 0 hE0 ?_;refine te 4 hE4 ?_;refine te 5 hE5 ?_;refine te 7 hE7 ?_;refine Zgm ?_;intro h;refine Ze ?_;refine Zbq ?_;refine tv (o_slice (l:=1) (h:=us.length) underlying212 sz247 rfl (bnd_nat rfl) bnd_none oqz oqz) ?_;refine tl_env (d:=85) (v:= .slice (cutAddr au11 cu11 1 4) us1.length (cu11-1)) (by show Value.slice _ (us.length-1) _=_;rw [hu16,hul1]) ?_;refine Zbn ?_;exact ⟨_,T5,r5,l5,us1,_,_,by assumption,by assumption,by assumption,hdr,by omega,by repeat (first|exact tl_tls|exact tl_und|assumption|refine tl_upd ?_),rfl,rfl,rfl,rfl,drqz⟩
    have hu16:us.length<=15:=(by first|omega|(simp at h;omega));have hdr:us.drop (us.length-15)=us:=(by rw [show us.length-15=0 by omega];rfl);refine tc_skip ?_;exact ⟨_,_,r1,l1,us,_,_,by assumption,by assumption,by assumption,hdr,by omega,by repeat (first|exact tl_tls|exact tl_und|assumption|refine tl_upd ?_),rfl,rfl,rfl,rfl,drqz⟩
  intro ρ B hI;obtain ⟨Y7,T7,r7,l7,us5,a5,c5,hj0,hj1,hj2,hj3,hj4,hj5,hE5,hE0,hE4,hE7,hBA⟩:=hI;refine q_then_n ?_;refine tc_pre hBA.sat ?_;clear hBA;refine te 5 hE5 ?_;refine te 0 hE0 ?_;refine te 4 hE4 ?_;refine te 7 hE7 ?_;refine tc_seq ?_;obtain ⟨hu15,huu⟩:=hj4;have hl7:=tbl_one hj1.t1 (by rw [hj2,List.length_map];exact Nat.le_trans (show us5.length<=16 by omega) (by decide));obtain ⟨hl7a,hl7b⟩:=hl7;have hub5:(us5.map blC).length=us5.length:=List.length_map ..;obtain ⟨b9,T8,hp1,hp2⟩:=hj1.put (xs:=sbys (packB c)) oqz oqz hin oqz (by rw [List.length_nil];omega);have hb9:b9<X.n:=hp2.blt (b9,sbys (packB c)) (by simp);obtain ⟨r9,T9,l9,hi1,hi2,hi3⟩:=hp2.ins (i:=us5.length) (ins:=[le 4 (b9+1)]) hin oqz (by rw [List.length_append,List.length_nil,hub5];show _+0+(us5.length+1)+5<=_;omega) (by rw [hj2,List.length_map];exact Nat.le_refl _) (by show 1<=20;decide) (λ y hy=>by rw [List.mem_singleton] at hy;rw [hy,le_length]);have hi4:flatP (asP l9)=(us5++[(b9,c)]).map refC:=(by rw [hi3,hj2,List.take_of_length_le (by rw [List.length_map];exact Nat.le_refl _),List.drop_of_length_le (by rw [List.length_map];exact Nat.le_refl _),List.append_nil,List.map_append];rfl);have hR7:=hp2.ref.1
  have hI9:HsI X.n X.ba s T9 r9 l9 0 [] (us5++[(b9,c)]) []:=⟨by rw [List.append_nil,List.map_append];exact hi2,hi4,rfl,λ y hy=>by
    rw [List.append_nil] at hy
    rcases List.mem_append.1 hy with hy|hy
    . exact hI.ok y (List.mem_append_left _ (List.mem_of_mem_drop (hj3▸hy)))
    rw [List.mem_singleton] at hy;rw [hy];exact ⟨hm,hpsz⟩⟩
  refine Zbq ?_;refine tv (o_nilCheck rfl) ?_;refine tv (o_fieldAddr (o:=0) underlying136 rfl rfl sz46 rfl) ?_;refine tv (o_load p46 rfl hsqz rfl) ?_;refine tl_env (d:=90) (v:= .pointer (some ⟨X.w,0,none⟩)) (rfl) ?_;refine tlm ?_;refine tl_c rfl (o_call bd96 rfl (PutB_c (ho:=ho) (X:=X) (s:=s) (hb:=hb) (Y:=Y7) (T:=T7) (hok:=hj0) (str:=packB c) (hsz:=by omega))) ?_;rintro _ _ ⟨ref92,e92,T92,Y92,hp92,rfl,hok92,rfl⟩;rw [hp1] at hp92
  obtain ⟨rfl,h9⟩:=Prod.mk.inj hp92;obtain ⟨rfl,rfl⟩:=Prod.mk.inj h9;refine Zbe ?_;refine tla ?_;refine tl_u rfl (o_stU (l':=[.int .i64 (0)]) rfl upqz sz24 rfl rfl (by exact Nat.one_pos) rfl) ?_;refine Zhq ?_;refine Zgm ?_;intro h;refine Zdv ?_;refine tc_cut (λ ρ BB=>∃ (Y8:WkY),(WkOk X Y8 T9 (s.ls.length*64))/\ (Tl 121 ρ (.agg #[pz hh,.agg #[.int .u32 ((r1:Nat):Int),.int .u32 ((r2:Nat):Int)],pz b4]))/\ ρ 4=(pz b4)/\ Dr BB (R*WkA X Y8 s*pt hh (cl (hisV X r9 0) 136)*pt b4 (cl [.int .i64 0] 24))) ?_ ?_
  . skip
    refine tc_regk 15 mo ?_
    show @TU (dfT 138) _ _ _ _ _ _ 24 (Array.replicate 24 false) _ _
    refine tu_pure (i:=0) (listed':= #[tt,ff,ff,ff,ff,ff,ff,ff,ff,ff,ff,ff,ff,ff,ff,ff,ff,ff,ff,ff,ff,ff,ff,ff]) rfl kqz kqz kqz rfl rfl rfl (o_move wqz) ?_;refine tu_take (i:=1) (listed':= #[tt,tt,ff,ff,ff,ff,ff,ff,ff,ff,ff,ff,ff,ff,ff,ff,ff,ff,ff,ff,ff,ff,ff,ff]) [2,3,4,15] rfl kqz kqz kqz kqz rfl rfl (o_move wqz) ?_;refine tu_take (i:=2) (listed':= #[tt,tt,tt,ff,ff,ff,ff,ff,ff,ff,ff,ff,ff,ff,ff,ff,ff,ff,ff,ff,ff,ff,ff,ff]) [3,4,15] rfl kqz kqz kqz kqz rfl rfl (o_nilCheck rfl) ?_;refine tu_take (i:=3) (listed':= #[tt,tt,tt,tt,ff,ff,ff,ff,ff,ff,ff,ff,ff,ff,ff,ff,ff,ff,ff,ff,ff,ff,ff,ff]) [4,15] rfl kqz kqz kqz kqz rfl rfl (o_fieldAddr (o:=0) underlying136 rfl rfl sz46 rfl) ?_;refine tu_take (i:=4) (listed':= #[tt,tt,tt,tt,tt,ff,ff,ff,ff,ff,ff,ff,ff,ff,ff,ff,ff,ff,ff,ff,ff,ff,ff,ff]) [15] rfl kqz kqz kqz kqz rfl rfl (o_load p46 rfl hsqz rfl) ?_;refine tu_env (d:=103) (v:= .pointer (some ⟨X.w,0,none⟩)) (rfl) ?_;refine tu_take (i:=5) (listed':= #[tt,tt,tt,tt,tt,tt,ff,ff,ff,ff,ff,ff,ff,ff,ff,ff,ff,ff,ff,ff,ff,ff,ff,ff]) [6,7,8,9,15] rfl kqz kqz kqz kqz rfl rfl (o_move wqz) ?_;refine tu_take (i:=6) (listed':= #[tt,tt,tt,tt,tt,tt,tt,ff,ff,ff,ff,ff,ff,ff,ff,ff,ff,ff,ff,ff,ff,ff,ff,ff]) [7,8,9,15] rfl kqz kqz kqz kqz rfl rfl (o_nilCheck rfl) ?_;refine tu_take (i:=7) (listed':= #[tt,tt,tt,tt,tt,tt,tt,tt,ff,ff,ff,ff,ff,ff,ff,ff,ff,ff,ff,ff,ff,ff,ff,ff]) [8,9,15] rfl kqz kqz kqz kqz rfl rfl (o_fieldAddr (o:=1) underlying136 rfl rfl sz134 rfl) ?_;refine tu_take (i:=8) (listed':= #[tt,tt,tt,tt,tt,tt,tt,tt,tt,ff,ff,ff,ff,ff,ff,ff,ff,ff,ff,ff,ff,ff,ff,ff]) [9,15] rfl kqz kqz kqz kqz rfl rfl (o_fieldAddr (o:=0) underlying134 rfl rfl sz53 rfl) ?_;refine tu_take (i:=9) (listed':= #[tt,tt,tt,tt,tt,tt,tt,tt,tt,tt,ff,ff,ff,ff,ff,ff,ff,ff,ff,ff,ff,ff,ff,ff]) [15] rfl kqz kqz kqz kqz rfl rfl (o_load p53 rfl hsqz rfl) ?_;refine tu_env (d:=108) (v:= .int .u32 ((r7:Nat):Int)) (rfl) ?_;refine tu_take (i:=10) (listed':= #[tt,tt,tt,tt,tt,tt,tt,tt,tt,tt,tt,ff,ff,ff,ff,ff,ff,ff,ff,ff,ff,ff,ff,ff]) [11,15] rfl kqz kqz kqz kqz rfl rfl (o_move wqz) ?_;refine tu_take (i:=11) (listed':= #[tt,tt,tt,tt,tt,tt,tt,tt,tt,tt,tt,tt,ff,ff,ff,ff,ff,ff,ff,ff,ff,ff,ff,ff]) [15] rfl kqz kqz kqz kqz rfl rfl (o_len underlying212 rfl) ?_;refine tu_take (i:=12) (listed':= #[tt,tt,tt,tt,tt,tt,tt,tt,tt,tt,tt,tt,tt,ff,ff,ff,ff,ff,ff,ff,ff,ff,ff,ff]) [13,14,15] rfl kqz kqz kqz kqz rfl rfl (o_move wqz) ?_;refine tu_one (i:=13) kqz ?_;refine ou_c (i:=13) (listed':= #[tt,tt,tt,tt,tt,tt,tt,tt,tt,tt,tt,tt,tt,tt,ff,ff,ff,ff,ff,ff,ff,ff,ff,ff]) rfl rfl rfl (o_call bd74 rfl (Put32_c (a:=none) (m:=0) (xs:=[]) (v:=b9+1) (hr:=rs_none) (hm:=rfl))) ?_;rintro _ _ ⟨a112,c112,rfl,hc112,rfl⟩;refine ⟨by repeat (first|with_reducible exact dr_refl|apply dr_keep|apply dr_drop), ?_⟩;refine tu_env (d:=112) (v:= .slice a112 4 c112) (rfl) ?_;refine tu_one (i:=14) kqz ?_;refine ou_x (i:=14) (listed':= #[tt,tt,tt,tt,tt,tt,tt,tt,tt,tt,tt,tt,tt,tt,tt,ff,ff,ff,ff,ff,ff,ff,ff,ff]) rfl rfl rfl (o_buildSliceL (vs:=[.slice a112 4 c112]) (l:=[.slice a112 4 c112]) underlying35 sz67 z67 rfl rfl (by decide) (by decide) (by intro v hv;simp only [List.mem_singleton] at hv;subst hv;rfl) rfl) ?_;rintro _ _ ⟨b113,rfl,rfl⟩;refine ⟨by repeat (first|with_reducible exact dr_refl|apply dr_keep|apply dr_drop), ?_⟩;refine tu_one (i:=15) kqz ?_;refine uk_c (S2:=R) (i:=15) (listed':= #[tt,tt,tt,tt,tt,tt,tt,tt,tt,tt,tt,tt,tt,tt,tt,tt,ff,ff,ff,ff,ff,ff,ff,ff]) rfl rfl rfl rfl (o_call bd28 rfl (Insert15_c (ho:=ho) (X:=X) (s:=s) (hb:=hb) (Y:=Y92) (T:=T8) (hok:=hok92) (ref:=r7) (cell:=4) (ix:=((us5.length:Nat):Int)) (rows:=[le 4 (b9+1)]) (rv:=[.slice a112 4 c112]) (ar:=some ⟨b113,0,none⟩) (cr:=1) (hr1:=by omega) (hcell:=by decide) (hix:=by omega) (hrr:=by repeat (first|exact rs_pt rfl|apply Rs.left)) (hrw:=⟨rfl,λ j hj=>match j,hj with|0,_=>⟨_,_,rfl,(by show Rs _ _ (bys ([]++le 4 (b9+1)));repeat (first|with_reducible exact rs_sl|apply Rs.left))⟩⟩) (hrc:=λ y hy=>by rw [List.mem_singleton] at hy;rw [hy];exact ⟨le_length _ _,le_bytes _ _⟩) (hrn:=by show 1<=65536;decide))) ?_;rintro _ _ ⟨rf114,e114,T114,Y114,hir114,rfl,hok114,rfl⟩;refine ⟨by repeat (first|with_reducible exact dr_refl|apply dr_keep|apply dr_drop), ?_⟩;rw [insR_tbl hp2.t1 (by decide) hp2.lt (by rw [hj2,List.length_map];exact Nat.le_refl _),hi1] at hir114
    obtain ⟨rfl,h9⟩:=Prod.mk.inj hir114;obtain ⟨rfl,rfl⟩:=Prod.mk.inj h9;refine tm 16 rfl kqz rfl (o_move wqz) ?_;refine tm 17 rfl kqz rfl (o_extract rfl rfl) ?_;refine tm 18 rfl kqz rfl (o_extract rfl rfl) ?_;refine tm 19 rfl kqz rfl (o_nilCheck rfl) ?_;refine tm 20 rfl kqz rfl (o_fieldAddr (o:=1) underlying136 rfl rfl sz134 rfl) ?_;refine tm 21 rfl kqz rfl (o_fieldAddr (o:=0) underlying134 rfl rfl sz53 rfl) ?_;refine th_one (i:=22) kqz ?_;refine oh_u rfl rfl rfl (o_stU (l':=hisV X r9 0) rfl upqz sz53 rfl rfl (by show 1<3;decide) rfl) drqz ?_;refine th_one (i:=23) kqz ?_;refine oh_u rfl rfl rfl (o_stU (l':=[.int .i64 (0)]) rfl upqz sz24 rfl rfl (by exact Nat.one_pos) rfl) drqz ?_;refine th_done kqz ?_;exact ⟨_,hok114,by repeat (first|exact tl_tls|exact tl_und|assumption|refine tl_upd ?_),rfl,drqz⟩
  intro ρ B hI;obtain ⟨Y8,hq0,hq1,hE4,hBA⟩:=hI;refine q_then_n ?_;refine tc_pre hBA.sat ?_;clear hBA;refine te 4 hE4 ?_;refine Zbh ?_;refine tl_u rfl (o_stU (l':=[.int .i64 (0)]) rfl upqz sz24 rfl rfl (by exact Nat.one_pos) rfl) ?_;refine Zhr ?_;refine .inr ⟨_,by repeat (first|exact tl_tls|exact tl_und|assumption|refine tl_upd ?_),(keep21_d (hih:=(by repeat (first|exact has_here|apply has_left))) (he:=(by repeat (first|exact has_here|apply has_left)))).mono ?_⟩;rintro _ _ rfl;exact ⟨.int .i64 (0),C (WkA X Y8 s) (pt hh (cl (hisV X r9 0) 136)),resA1 rfl (rv_cell1 p24 rfl hsqz rfl),(λ g w h=>by rw [hC];exact Dr.sat (A':=R*WkA X Y8 s*pt hh (cl (hisV X r9 0) 136)) drqz g w h),_,_,_,_,_,_,_,_,_,.inr ⟨hm,rfl,rfl,b9,by rw [hj3]⟩,rfl,hI9,hq0,rfl⟩
end Go.Vl

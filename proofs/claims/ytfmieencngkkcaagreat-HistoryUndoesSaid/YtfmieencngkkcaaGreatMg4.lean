/- What the row rests on, part 4: a calculus of assertions, walks of functions over it, and plain laws. Conditions: none. -/
import Derived.Deep.QuietTactic
import Derived.BigQuiet
import Derived.WalkKit
import Derived.Test.YtfmieencngkkcaaGreatProg
import Derived.OrdersHeld
import Derived.Shelf.SortM.SortNone
import Derived.Shelf.SortM.Plain
import Derived.Ground.SlgmProg
import Derived.Shelf.SlIterI.Nil
import Derived.Ground.GgzProg
import Derived.Maps.RangeRun
import Derived.Laws.BytesArg
import Derived.RangeFuncRecord
import Derived.TacticsIn
import Derived.Deep.Slices
import Derived.OpenShut
import Derived.ChangeArms
import Derived.SizedLaws
import Derived.ChangeSame
import Derived.Test.YtfmieencngkkcaaGreatRows
import Derived.Sort.QuietThIn
import Derived.ScopeJumps
import Derived.LaidEqlPtr
import Derived.MapKept
import Derived.Laws.Externs
import Derived.Lib.Builder
import Derived.Lib.UnsafeStr
import Derived.Laws.Strings
import Derived.Lib.ConvBytes
import Derived.Laws.AppendOwn
import Derived.Defers
import Derived.Test.YtfmieencngkkcaaGreatMg3
set_option linter.unusedVariables false
set_option linter.unusedSimpArgs false
set_option maxRecDepth 100000
set_option maxHeartbeats 4000000
namespace Go.Vl
open Go Go.Proofs Go.Proofs.Tryz
theorem ovF_lt {M:MS}{n:Nat}{f:TF}(h:MF M n f){p:Nat}{xs:List Nat}(hx:∀x∈xs,x<256):∀x∈ovF f p xs,x<256:=λ x hm=>by
  obtain ⟨i,hi⟩:=List.mem_iff_getElem?.1 hm;rw [ovF_get] at hi
  cases hxi:xs[i]? with
  |none=>rw [hxi] at hi;cases hi
  |some y=>
    rw [hxi] at hi
    simp only [Option.map_some,Option.some.injEq] at hi
    cases hf:f (p+i) with
    |none=>rw [hf] at hi;simp at hi;rw [←hi];exact hx y (List.mem_of_getElem? hxi)
    |some c=>rw [hf] at hi;simp at hi;rw [←hi];exact h.by_ _ _ hf
theorem con_lt {X:WkX}{Y:WkY}{T:WkT}{N:Nat}{s:DevS}{ba b:Nat}(h:WkOk X Y T N):∀x∈conB T s ba b,x<256:=ovF_lt h.m img_sub
theorem sobB {xs:List Nat}(h:∀x∈xs,x<256):sbys (sob xs)=xs:=by
  unfold sbys sob
  rw [List.toList_toArray,List.map_map]
  conv=>rhs;rw [←List.map_id xs]
  refine List.map_congr_left λ x hx=> ?_
  show (UInt8.ofNat x).toNat=x
  rw [UInt8.toNat_ofNat']
  exact Nat.mod_eq_of_lt (h x hx)
theorem rs_eqB {A:SP}{a:Option Addr}{xs ys:List Nat}(e:xs=ys)(h:Rs A a (bys xs)):Rs A a (bys ys):=e▸h
theorem sobN (xs:List Nat):(sob xs).size=xs.length:=by unfold sob;show (List.toArray _).size=_;simp
theorem o_nestrB {P:Program}{n:Nat}{ρ:Env}{A:SP}{dst:Option Tmp}{ty:TypeId}{pos:String}{after:Array Edge}{gd:Option (Nat×Bool)}{t t':TypeId}{x y:Operand}{a b:ByteArray}(hx:ev n ρ x= .string a)(hy:ev n ρ y= .string b):
    OpV P n ρ A ⟨dst,.binOp .neq t x y t',ty,pos,after,gd⟩ (.bool (decide (a.toList≠b.toList))):=
  opv_of λ w=>by
  simp only [execOp,hx,hy]
  rw [run_bind (w':=w) (a:= .bool (decide (a.toList≠b.toList)))]
  . rfl
  rw [run_bind (w':=w) (a:=())]
  . by_cases h:a.toList=b.toList<;>simp [binOp,Op.stringOp,pure,h]
  rfl
theorem sbys_inj {a b:ByteArray}:a.toList=b.toList↔sbys a=sbys b:=by
  rw [ByteArray.toList_eq,ByteArray.toList_eq]
  unfold sbys
  constructor
  . intro h;rw [h]
  intro h;exact List.map_inj_right (λ x y e=>UInt8.toNat_inj.1 e)|>.1 h
theorem sob_inj {xs ys:List Nat}(hx:∀x∈xs,x<256)(hy:∀x∈ys,x<256):(sob xs).toList=(sob ys).toList↔xs=ys:=by
  rw [sbys_inj,sobB hx,sobB hy]
theorem Read13_c {A R:SP}{C:SP->SP}{X:WkX}{Y:WkY}{T:WkT}{s:DevS}(hc:Ct A (WkA X Y s) R C:=by exact cbqz)(hok:WkOk X Y T (s.ls.length*64))(hb:WkB X s)(ho:s.off=false:=by assumption){b:Int}:
    Fn Tryz.prog 148 #[.pointer (some ⟨X.w,0,none⟩),.int .i64 b] A (λ r B=>∃a m c e xs,r= .tuple #[.slice a m c,.int .i64 e]∧
      ((usedZ T b=true/\ e=0/\ m=256/\ 256<=c/\ xs=conB T s X.ba b.toNat)∨(usedZ T b=false/\ e=130/\ m=0/\ xs=[]))/\ B=A*Sl 1 (.slice a m c) m (bys xs)):=by
  cases h:usedZ T b with
  |true=>
    obtain ⟨q,rfl⟩:∃q:Nat,b=q:=by
      unfold usedZ at h
      simp only [Bool.and_eq_true,decide_eq_true_eq] at h
      exact ⟨b.toNat,by omega⟩
    rw [usedZ_nat] at h
    exact (Read13_ok (hc:=hc) (hok:=hok) (hb:=hb) (hu:=h)).mono λ r B ⟨a,c,h1,h2,h3⟩=>⟨a,256,c,0,_,h1,.inl ⟨rfl,rfl,rfl,h2,rfl⟩,h3⟩
  |false=>
    intro g w hs;refine (Read13_no (hc:=hc) (hok:=hok) (hb:=hb) (hu:=h) (ho:=ho) g w hs).mono ?_;rintro e w' ⟨v,B,e1,⟨e2,rfl⟩,hB⟩;exact ⟨v,_,e1,⟨none,0,0,130,[],e2,.inr ⟨rfl,rfl,rfl,rfl⟩,rfl⟩,sl_nil hB⟩
attribute [local irreducible] crk crL crc Sl pt ro Dev imgS recS readS recsF rdW rdO rkT Parts rvl recordsS runsL adrF kcl xcl kys runA runsF layF ovF TxA adZ WkA SlB blkS conB
theorem Zd8 {p r:Prop}(k:r)(h:Kq r->p:=by intro k;refine tl_u rfl (o_stUN rfl upqz sz350 rfl rfl rfl (by first|decide|simp|omega) rfl) ?_;refine Zbd ?_;exact k.o):p:=h ⟨k⟩
theorem Zfq {p r:Prop}(k:r)(h:Kq r->p:=by intro k;refine tv (o_extract rfl rfl) ?_;refine Zcs ?_;exact k.o):p:=h ⟨k⟩
theorem readL_c {A R:SP}{C:SP->SP}{X:WkX}{Y:WkY}{T:WkT}{s:DevS}(hc:Ct A (WkA X Y s) R C:=by exact cbqz)(hok:WkOk X Y T (s.ls.length*64))(hb:WkB X s)(ho:s.off=false:=by assumption){ref:Nat}(hr0:1<=ref:=by omega)(hr1:ref<4294967296:=by omega):
    Fn Tryz.prog 296 #[.pointer (some ⟨X.w,0,none⟩),.int .u32 ((ref:Nat):Int)] A (λ r B=>∃l nx,lnkS (usedB T) (conB T s X.ba) ref=(l,nx)/\ r= .tuple #[.agg ([vn l.1,.string (sob l.2.1),.int .i64 l.2.2]:List Value).toArray,.int .u32 ((nx:Nat):Int)]/\ A=B):=by
  refine fn_enterW func296 rfl ntmps296 (by simp) ?_;obtain ⟨hb1,hb2,hb3⟩:=id hb;have hcl:=con_lt (s:=s) (ba:=X.ba) (b:=ref-1) hok;obtain ⟨bs,hbs⟩:∃bs,conB T s X.ba (ref-1)=bs:=⟨_,rfl⟩;rw [hbs] at hcl
  refine tc_have (λ _ _ h=>txa_wf (wka_txa hc) _ _ h) λ hwf=> ?_
  have hbl:usedB T (ref-1)=true->bs.length=256:=λ hu=>by
    have:=used_n hok hu;rw [←hbs];exact con_len (by rw [imgS_len hwf];omega)
  refine sr ?_;refine tl_x rfl (o_alloc (l:=[vn 0,.string (sob []),.int .i64 0]) z350 rfl) ?_;rintro _ _ ⟨b4,rfl,rfl⟩;refine Zbu ?_;refine tv (o_convI (a:=((ref:Nat):Int)) underlying53 underlying3 rfl (wrap_i64 oqz)) ?_;refine tv (o_subI rfl rfl oqz) ?_;refine tl_env (d:=16) (v:=(vn (ref-1))) (congrArg (Value.int .i64) oqz) ?_;refine Zee ?_;refine tl_c rfl (o_call bd148 rfl (Read13_c (hc:=ct_left hc) (hok:=hok) (hb:=hb) (b:=((ref-1:Nat):Int)))) ?_;rintro _ _ ⟨a20,m20,c20,e20,xs20,rfl,hr20,rfl⟩;rw [usedZ_nat,Int.toNat_natCast,hbs] at hr20
  refine Zc3 ?_;refine Zcr ?_;refine tc_cond rfl (λ h=> ?_) (λ h=> ?_)
  . obtain ⟨hu,rfl,_,_,_⟩|⟨hu,rfl,rfl,rfl⟩:=hr20
    . exfalso;simp at h
    refine tc_reg ?_;refine Zds ?_;refine Zbv ?_;refine tc_cond rfl (sbq ?_) dbq;intro h;refine Zb ?_;refine tv (o_bS (l:=[vn 0,.string (sob []),.int .i64 140]) (pv_cons wqz pv_nil) underlying350 z350 (pl350 underlying350) rfl) ?_;refine Zd8 ?_;refine q_then_r ?_;have hu:=hu
    have he9:lnkS (usedB T) (conB T s X.ba) ref=((0,[],140),0):=by
      unfold lnkS;first|rw [if_neg (λ h8=>by rw [hu] at h8;exact absurd h8.2 (by decide))]|rw [if_pos ⟨hr0,hu⟩,hbs,if_neg hbad]
    exact ⟨.tuple #[.agg ([vn 0,.string (sob []),.int .i64 140]:List Value).toArray,.int .u32 ((0:Nat):Int)],_,resA2 rfl (rv_cell a350 sz350 rfl (by (repeat (first|assumption|with_reducible exact has_here|with_reducible exact has_pt|apply has_left))) (by exact Nat.le_refl 3) rfl) (rv_tmp rfl),Dr.sat drqz,(0,[],140),0,he9,rfl,rfl⟩
  obtain ⟨hu,rfl,rfl,hc7,hx7⟩|⟨hu,rfl,_,_⟩:=hr20
  rotate_left
  . exfalso;simp at h
  obtain rfl:=hx7.symm;have hbl:=hbl hu;refine Zc4 ?_;refine Zz ?_;intro h;refine Zdv ?_;obtain ⟨nx,hnx⟩:∃nx,nm (bs.take 4)=nx:=⟨_,rfl⟩;obtain ⟨dn,hdn⟩:∃dn,nm ((bs.drop 4).take 2)=dn:=⟨_,rfl⟩
  have hnb:nx<4294967296:=by
    have h4:(bs.take 4).length=4:=(by rw [List.length_take];omega);have:=nm_lt (bs.take 4) λ x hx=>hcl x (List.mem_of_mem_take hx)
    rw [h4,hnx] at this;exact this
  have hdb:dn<65536:=by
    have h4:((bs.drop 4).take 2).length=2:=(by rw [List.length_take,List.length_drop];omega);have:=nm_lt ((bs.drop 4).take 2) λ x hx=>hcl x (List.mem_of_mem_drop (List.mem_of_mem_take hx))
    rw [h4,hdn] at this;exact this
  have hlb:((bs.drop 8).take dn).length=min dn 248:=(by rw [List.length_take,List.length_drop,hbl]);have hlx:∀x∈(bs.drop 8).take dn,x<256:=λ x hx=>hcl x (List.mem_of_mem_drop (List.mem_of_mem_take hx))
  refine Zbq ?_;refine tl_c rfl (o_call bd68 rfl (Take32_c (p:=0) (xs:=bs) (m:=256) (hb:=hcl) (hm:=hbl))) ?_;refine Zdu ?_;refine tl_env (d:=32) (v:= .int .u32 ((nx:Nat):Int)) (by show Value.int .u32 ((nm ((bs.drop 0).take 4):Nat):Int)=_;rw [List.drop_zero,hnx]) ?_;refine Zfq ?_;refine tl_c rfl (o_call bd201 rfl (Take16_c (p:=4) (xs:=bs) (m:=256) (hb:=hcl) (hm:=hbl))) ?_;refine Zdu ?_;refine tl_env (d:=37) (v:= .int .u16 ((dn:Nat):Int)) (by show Value.int .u16 ((nm ((bs.drop 4).take 2):Nat):Int)=_;rw [hdn]) ?_;refine tv (o_extract rfl rfl) ?_;refine Zm ?_;refine Zb1 ?_;refine tc_cut (λ ρ BB=>∃ (bb:Bool),(bb=decide (¬(1<=dn/\ dn<=248/\ (nx=0∨dn=248))))/\ ρ 52= .bool bb/\ ρ 4=(pz b4)/\ ρ 6=(vn (ref-1))/\ ρ 7= .slice a20 256 c20/\ ρ 9= .int .u32 ((nx:Nat):Int)/\ ρ 11= .int .u16 ((dn:Nat):Int)/\ Dr BB (A*pt b4 (cl [vn 0,.string (sob []),.int .i64 0] 350)*Sl 1 (.slice a20 256 c20) 256 (bys bs))) ?_ ?_
  . skip
    refine Zbq ?_;refine Zc0 ?_;refine tl_bool (d:=41) rfl (sbq ?_) (sbq ?_)
    . intro h;refine Zp ?_;refine Zdx ?_;refine Zp ?_;refine Zbg ?_;exact ⟨_,by first|exact (decide_eq_true oqz).symm|exact (decide_eq_false oqz).symm|(rw [decide_eq_decide];omega),rfl,rfl,rfl,rfl,rfl,rfl,drqz⟩
    intro h;refine tlm ?_;refine Zdy ?_;refine tl_bool (d:=45) rfl (sbq ?_) (sbq ?_)
    . intro h;refine Zgi ?_;refine Zbg ?_;exact ⟨_,by first|exact (decide_eq_true oqz).symm|exact (decide_eq_false oqz).symm|(rw [decide_eq_decide];omega),rfl,rfl,rfl,rfl,rfl,rfl,drqz⟩
    intro h;refine tlm ?_;refine Zdf ?_;refine tl_bool (d:=48) rfl (sbq ?_) (sbq ?_)
    . intro h;refine tlm ?_;refine tv (o_nei rfl rfl) ?_;refine tv (o_pick_t rfl wqz) ?_;refine Zbx ?_;exact ⟨_,by first|exact (decide_eq_true oqz).symm|exact (decide_eq_false oqz).symm|(rw [decide_eq_decide];omega),rfl,rfl,rfl,rfl,rfl,rfl,drqz⟩
    intro h;refine Zp ?_;refine tv (o_pick_f rfl wqz) ?_;refine Zbx ?_;exact ⟨_,by first|exact (decide_eq_true oqz).symm|exact (decide_eq_false oqz).symm|(rw [decide_eq_decide];omega),rfl,rfl,rfl,rfl,rfl,rfl,drqz⟩
  intro ρ B hI;obtain ⟨bb,hbb0,hE52,hE4,hE6,hE7,hE9,hE11,hBA⟩:=hI;refine q_then_n ?_;refine tc_pre hBA.sat ?_;clear hBA;refine te 52 hE52 ?_;refine te 4 hE4 ?_;refine te 6 hE6 ?_;refine te 7 hE7 ?_;refine te 9 hE9 ?_;refine te 11 hE11 ?_;refine tc_cond rfl (λ h=> ?_) (λ h=> ?_)
  . have hbad:¬(1<=nm ((bs.drop 4).take 2)/\ nm ((bs.drop 4).take 2)<=248/\ (nm (bs.take 4)=0∨nm ((bs.drop 4).take 2)=248)/\ blkS (nm (bs.take 4)) ((bs.drop 8).take (nm ((bs.drop 4).take 2)))=bs):=(by rw [hnx,hdn];rw [h] at hbb0;have h8:=of_decide_eq_true hbb0.symm;exact λ h9=>h8 ⟨h9.1,h9.2.1,h9.2.2.1⟩);refine sr ?_;refine tv (o_bS (l:=[vn 0,.string (sob []),.int .i64 140]) (pv_cons wqz pv_nil) underlying350 z350 (pl350 underlying350) rfl) ?_;refine Zd8 ?_;refine q_then_r ?_;have hu:=hu
    have he9:lnkS (usedB T) (conB T s X.ba) ref=((0,[],140),0):=by
      unfold lnkS;first|rw [if_neg (λ h8=>by rw [hu] at h8;exact absurd h8.2 (by decide))]|rw [if_pos ⟨hr0,hu⟩,hbs,if_neg hbad]
    exact ⟨.tuple #[.agg ([vn 0,.string (sob []),.int .i64 140]:List Value).toArray,.int .u32 ((0:Nat):Int)],_,resA2 rfl (rv_cell a350 sz350 rfl (by (repeat (first|assumption|with_reducible exact has_here|with_reducible exact has_pt|apply has_left))) (by exact Nat.le_refl 3) rfl) (rv_tmp rfl),Dr.sat drqz,(0,[],140),0,he9,rfl,rfl⟩
  rw [h] at hbb0
  obtain ⟨hd1,hd2,hd3⟩:=Classical.not_not.1 (of_decide_eq_false hbb0.symm);refine Zeb ?_;refine tv (o_convI (a:=((dn:Nat):Int)) underlying287 underlying3 rfl (wrap_i64 oqz)) ?_;refine tv (o_addI rfl rfl oqz) ?_;refine tl_env (d:=57) (v:=(vn (8+dn))) (by first|rfl|(show Value.int .i64 _=_;congr 1)) ?_;refine tv (o_slice (l:=8) (h:=8+dn) underlying67 sz5 rfl (bnd_nat rfl) (bnd_nat rfl) oqz oqz) ?_;refine tl_env (d:=58) (v:= .slice (cutAddr a20 c20 8 1) dn (c20-8)) (by show Value.slice _ (8+dn-8) _=_;rw [Nat.add_sub_cancel_left]) ?_;refine tv (o_b2s (xs:=(bs.drop 8).take dn) underlying67 underlying5 underlying9 rfl (rs_mid (X:=bs) sq0z oqz) (by rw [hlb];omega) oqz) ?_;refine Za ?_;refine Zb1 ?_;refine tc_regh mo dr_refl ?_
  show TH _ _ _ _ _ 7 (Array.replicate 7 false) _ _
  refine Zc8 ?_;refine tm 4 rfl kqz rfl (o_move wqz) ?_;refine tm 5 rfl kqz rfl (o_b2s (xs:=bs) underlying67 underlying5 underlying9 rfl sq0z hbl oqz) ?_;refine th_one (i:=2) kqz ?_;refine oh_c rfl rfl rfl (o_call bd179 rfl (blockB_c (s:=sob ((bs.drop 8).take dn)) (nx:=nx) (hs:=by rw [sobN,hlb];omega))) ?_;rintro _ _ ⟨a62,c62,rfl,hc62,rfl⟩;refine ⟨by repeat (first|with_reducible exact dr_refl|apply dr_keep|apply dr_drop), ?_⟩;refine th_one (i:=3) kqz ?_;refine oh_v rfl rfl rfl (o_b2s (xs:=blkS nx ((bs.drop 8).take dn)) underlying67 underlying5 underlying9 rfl (rs_eqB (congrArg (blkS nx) (sobB hlx)) sq0z) (blkS_len (by rw [hlb];omega)) oqz) ?_;refine tm 6 rfl kqz rfl (o_nestrB rfl rfl) ?_;refine Zbs ?_;refine tc_cond rfl (λ h=> ?_) (λ h=> ?_)
  . have hbad:¬(1<=nm ((bs.drop 4).take 2)/\ nm ((bs.drop 4).take 2)<=248/\ (nm (bs.take 4)=0∨nm ((bs.drop 4).take 2)=248)/\ blkS (nm (bs.take 4)) ((bs.drop 8).take (nm ((bs.drop 4).take 2)))=bs):=(by rw [hnx,hdn];rintro ⟨_,_,_,h9⟩;exact of_decide_eq_true h ((sob_inj (blkS_bytes hlx) hcl).2 h9));refine sr ?_;refine tv (o_bS (l:=[vn 0,.string (sob []),.int .i64 140]) (pv_cons wqz pv_nil) underlying350 z350 (pl350 underlying350) rfl) ?_;refine Zd8 ?_;refine q_then_r ?_;have hu:=hu
    have he9:lnkS (usedB T) (conB T s X.ba) ref=((0,[],140),0):=by
      unfold lnkS;first|rw [if_neg (λ h8=>by rw [hu] at h8;exact absurd h8.2 (by decide))]|rw [if_pos ⟨hr0,hu⟩,hbs,if_neg hbad]
    exact ⟨.tuple #[.agg ([vn 0,.string (sob []),.int .i64 140]:List Value).toArray,.int .u32 ((0:Nat):Int)],_,resA2 rfl (rv_cell a350 sz350 rfl (by (repeat (first|assumption|with_reducible exact has_here|with_reducible exact has_pt|apply has_left))) (by exact Nat.le_refl 3) rfl) (rv_tmp rfl),Dr.sat drqz,(0,[],140),0,he9,rfl,rfl⟩
  have hgood:blkS nx ((bs.drop 8).take dn)=bs:=(sob_inj (blkS_bytes hlx) hcl).1 (by simpa using h);refine Zeb ?_;refine tv (o_bS (l:=[.int .i64 (((ref-1):Nat):Int),.string (sob ((bs.drop 8).take dn)),.int .i64 0]) (pv_cons wqz (pv_cons wqz (pv_cons wqz pv_nil))) underlying350 z350 (pl350 underlying350) rfl) ?_;refine tlm ?_;refine Zd8 ?_
  have he9:lnkS (usedB T) (conB T s X.ba) ref=((ref-1,(bs.drop 8).take dn,0),nx):=by
    unfold lnkS;rw [if_pos ⟨hr0,hu⟩,hbs,hnx,hdn,if_pos ⟨hd1,hd2,hd3,hgood⟩]
  exact ⟨.tuple #[.agg ([.int .i64 (((ref-1):Nat):Int),.string (sob ((bs.drop 8).take dn)),.int .i64 0]:List Value).toArray,.int .u32 ((nx:Nat):Int)],_,resA2 rfl (rv_cell a350 sz350 rfl (by (repeat (first|assumption|with_reducible exact has_here|with_reducible exact has_pt|apply has_left))) (by exact Nat.le_refl 3) rfl) (rv_tmp rfl),Dr.sat drqz,(ref-1,(bs.drop 8).take dn,0),nx,he9,rfl,rfl⟩
end Go.Vl

namespace Go.Vl
open Go Go.Proofs Go.Proofs.Tryz
def lkV (x:Lk):Value:= .agg ([vn x.1,.string (sob x.2.1),.int .i64 x.2.2]:List Value).toArray
theorem starM3 (S a b c:SP):S*(a*b*c)=S*a*b*c:=by ac_rfl
theorem ch_zero {f:Nat->Lk×Nat}{k m:Nat}:chL f k 0 m=[]:=by cases k<;>rfl
theorem ch_err {f:Nat->Lk×Nat}{k ref m:Nat}{l:Lk}{nx:Nat}(hk:0<k)(hr:ref≠0)(h:f ref=(l,nx))(he:(cutL m l).2.2≠0):chL f k ref m=[cutL m l]:=by
  obtain ⟨j,rfl⟩:∃j,k=j+1:=⟨k-1,by omega⟩
  conv=>lhs;unfold chL
  rw [if_neg hr,h];exact if_pos he
theorem ch_ok {f:Nat->Lk×Nat}{k ref m:Nat}{l:Lk}{nx:Nat}(hk:0<k)(hr:ref≠0)(h:f ref=(l,nx))(he:(cutL m l).2.2=0):chL f k ref m=cutL m l::chL f (k-1) nx (m+l.2.1.length):=by
  obtain ⟨j,rfl⟩:∃j,k=j+1:=⟨k-1,by omega⟩
  conv=>lhs;unfold chL
  rw [if_neg hr,h,Nat.add_sub_cancel];exact if_neg (by simpa using he)
theorem drop_one {L:List Lk}{k:Nat}{x:Lk}(h:L.drop k=[x]):L.length=k+1/\ L.getD k (0,[],0)=x:=by
  have h1:=congrArg List.length h;rw [List.length_drop,List.length_singleton] at h1
  refine ⟨by omega, ?_⟩;have h2:(L.drop k)[0]? =some x:=(by rw [h];rfl);rw [List.getElem?_drop,Nat.add_zero] at h2
  rw [List.getD_eq_getElem?_getD,h2];rfl
theorem drop_more {L Z:List Lk}{k:Nat}{x:Lk}(h:L.drop k=x::Z):k+1<=L.length/\ L.getD k (0,[],0)=x/\ L.drop (k+1)=Z:=by
  have h1:=congrArg List.length h;rw [List.length_drop,List.length_cons] at h1
  refine ⟨by omega, ?_, ?_⟩
  . have h2:(L.drop k)[0]? =some x:=(by rw [h];rfl);rw [List.getElem?_drop,Nat.add_zero] at h2
    rw [List.getD_eq_getElem?_getD,h2];rfl
  rw [←List.drop_drop,h];rfl
theorem cut_ok {m:Nat}{l:Lk}(h:¬65536<m+l.2.1.length):cutL m l=l:=by unfold cutL;exact if_neg h
theorem cut_no {m:Nat}{l:Lk}(h:65536<m+l.2.1.length):cutL m l=(0,[],140):=by unfold cutL;exact if_pos h
attribute [local irreducible] crk crL crc Sl pt ro Dev imgS recS readS recsF rdW rdO rkT Parts rvl recordsS runsL adrF kcl xcl kys runA runsF layF ovF TxA adZ WkA SlB blkS conB
namespace Rg
theorem Ydo {p r:Prop}(k:r)(h:Kq r->p:=by intro k;refine tc_seq ?_;refine tc_reg ?_;exact k.o):p:=h ⟨k⟩
theorem Ycz {p r:Prop}(k:r)(h:Kq r->p:=by intro k;refine tl_nil ?_;refine q_then_n ?_;exact k.o):p:=h ⟨k⟩
theorem Yhi {p r:Prop}(k:r)(h:Kq r->p:=by intro k;refine tc_seq ?_;refine Ydo ?_;exact k.o):p:=h ⟨k⟩
theorem Yh4 {p r:Prop}(k:r)(h:Kq r->p:=by intro k;refine tc_skip ?_;refine q_then_n ?_;exact k.o):p:=h ⟨k⟩
theorem Yfr {p r:Prop}(k:r)(h:Kq r->p:=by intro k;refine tc_ret ?_;refine q_then_r (q_block_r (q_then_r (q_block_r ?_)));exact k.o):p:=h ⟨k⟩
theorem Ycl {p r:Prop}(k:r)(h:Kq r->p:=by intro k;refine tl_v rfl (o_fieldAddr (o:=2) underlying350 rfl rfl sz24 rfl) ?_;refine tl_v rfl (by first|exact o_load p24 rfl (by repeat (first|with_reducible exact has_here|with_reducible exact has_pt|apply has_left)) rfl|exact o_loadC p24 rfl (by assumption)) ?_;exact k.o):p:=h ⟨k⟩
theorem chain1_f {l q1 q2:Nat}{X:WkX}{Y:WkY}{T:WkT}{s:DevS}(hok:WkOk X Y T (s.ls.length*64))(hb:WkB X s)(ho:s.off=false){ref:Nat}(hr1:ref<4294967296){L:List Lk}(hL:chL (lnkS (usedB T) (conB T s X.ba)) 65538 ref 0=L){J:Nat->SP->Prop}{XX:SP->Prop}{S0:SP}(h0:J 0 S0)(hY:∀F i S,i<L.length->J i S->Yd Tryz.prog l #[lkV (L.getD i (0,[],0))] (F*S) (λ v B=>∃ (b:Bool) (S':SP),v= .bool b/\ (b=true->J (i+1) S')/\ (b=false->XX S')/\ B=F*S')):
    Fn Tryz.prog 295 #[.func (.yield l) #[] #[],pz q1,pz q2] (S0*pt q1 (cl [.int .u32 ((ref:Nat):Int)] 53)*pt q2 (cl [.pointer (some ⟨X.w,0,none⟩)] 46)*WkA X Y s) (λ r B=>r= .tuple #[]/\ ((∃S,J L.length S/\ B=S*pt q1 (cl [.int .u32 ((ref:Nat):Int)] 53)*pt q2 (cl [.pointer (some ⟨X.w,0,none⟩)] 46)*WkA X Y s)∨∃S,XX S/\ B=S*pt q1 (cl [.int .u32 ((ref:Nat):Int)] 53)*pt q2 (cl [.pointer (some ⟨X.w,0,none⟩)] 46)*WkA X Y s)):=by
  refine fn_enterW func295 rfl ntmps295 (by simp) ?_;refine Ydo ?_;refine tla ?_;refine Ycz ?_;refine Ydo ?_;refine tl_v rfl (o_load p53 rfl (by repeat (first|with_reducible exact has_here|with_reducible exact has_pt|apply has_left)) rfl) ?_;refine tla ?_;refine Ycz ?_;refine tc_block ?_;refine tc_loop (λ kk ρ BB=>∃ (k:Nat) (r2:Nat) (m:Nat) (S:SP),(k<=L.length/\ k<=m/\ m<=65536/\ r2<4294967296)/\ (J k S)/\ (L.drop k=chL (lnkS (usedB T) (conB T s X.ba)) (65538-k) r2 m)/\ kk=L.length-k/\ ρ 4=(vn m)/\ ρ 5= .int .u32 ((r2:Nat):Int)/\ ρ 35=undef/\ ρ 0= .func (.yield l) #[] #[]/\ ρ 2=(pz q2)/\ Dr BB (S*pt q1 (cl [.int .u32 ((ref:Nat):Int)] 53)*pt q2 (cl [.pointer (some ⟨X.w,0,none⟩)] 46)*WkA X Y s)) (m:=L.length-(0)) ?_ ?_
  . exact ⟨0,ref,0,S0,by omega,h0,hL.symm,rfl,rfl,rfl,rfl,rfl,rfl,(by repeat (first|with_reducible exact dr_refl|apply dr_keep|apply dr_drop))⟩
  intro k ρ B hI;obtain ⟨k,r2,m,S,hp0,hp1,hp2,hkk1,hE4,hE5,hE35,hE0,hE2,hBA⟩:=hI;refine tc_pre hBA.sat ?_;clear hBA;refine tc_env (d:=4) hE4 ?_;refine tc_env (d:=5) hE5 ?_;refine tc_env (d:=35) hE35 ?_;refine tc_env (d:=0) hE0 ?_;refine tc_env (d:=2) hE2 ?_;refine Yhi ?_;refine tlm ?_;refine tl_v rfl (o_nei rfl rfl) ?_;refine Ycz ?_;refine tc_cond rfl (λ h=> ?_) (λ h=> ?_)
  . obtain ⟨hk1,hk2,hk3,hr2⟩:=hp0;have hrr:1<=r2:=(by first|omega|(simp at h;omega));refine Yh4 ?_;refine tc_block ?_;refine Ydo ?_;refine tl_v rfl (o_load p46 rfl (by repeat (first|with_reducible exact has_here|with_reducible exact has_pt|apply has_left)) rfl) ?_;refine tlm ?_;refine tl_c rfl (o_call bd296 rfl (readL_c (X:=X) (Y:=Y) (T:=T) (s:=s) (hok:=hok) (hb:=hb) (ref:=r2))) ?_;rintro _ _ ⟨l14,nx14,hl14,rfl,rfl⟩;have hcs:=lnk_cases (usedB T) (conB T s X.ba) r2 oqz (λ b _=>con_lt hok);rw [hl14] at hcs
    have hdl:l14.2.1.length<=248:=(by rcases hcs with h8|⟨b,next,d,_,_,_,_,h8,_,_,h9⟩;(rw [(Prod.mk.inj h8).1];exact Nat.zero_le _);(rw [(Prod.mk.inj h9).1];exact h8));refine tlm ?_;refine tl_v rfl (o_extract rfl rfl) ?_;refine tl_v rfl (o_extract rfl rfl) ?_;refine tl_x rfl (o_alloc (l:=[vn 0,.string (sob []),.int .i64 0]) z350 rfl) ?_;rintro _ _ ⟨b6,rfl,rfl⟩;refine tl_u rfl (o_stUN (l':=[vn l14.1,.string (sob l14.2.1),.int .i64 l14.2.2]) rfl (by repeat (first|with_reducible exact upd_here|with_reducible exact upd_pt|apply upd_left)) sz350 rfl rfl rfl (by exact Nat.le_refl 3) rfl) ?_;refine tla ?_;refine Ycz ?_;refine Ydo ?_;refine tlm ?_;refine tl_v rfl (o_fieldAddr (o:=1) underlying350 rfl rfl sz9 rfl) ?_;refine tl_v rfl (o_load p9 rfl (by repeat (first|with_reducible exact has_here|with_reducible exact has_pt|apply has_left)) rfl) ?_;refine tl_v rfl (o_lenS underlying9 rfl) ?_;refine tl_env (d:=20) (v:=(vn l14.2.1.length)) (by show Value.int .i64 (((sob l14.2.1).size:Nat):Int)=_;rw [sobN]) ?_;refine tl_v rfl (by first|exact o_addI rfl rfl oqz|exact o_add rfl rfl) ?_;refine tla ?_;refine Ycz ?_;refine Yhi ?_;refine tlm ?_;refine tl_v rfl (o_gtr rfl rfl) ?_;refine Ycz ?_;refine tc_cond rfl (λ h=> ?_) (λ h=> ?_)
    . have hcut:cutL m l14=(0,[],140):=cut_no (by first|omega|(simp at h;omega));have hd:=hp2.trans (ch_err oqz oqz hl14 (by rw [hcut];decide));rw [hcut] at hd
      obtain ⟨hLn,hgd⟩:=drop_one hd;have hkL:k<L.length:=(by omega);refine tc_reg ?_;refine tl_v rfl (o_bS (l:=[vn 0,.string (sob []),.int .i64 140]) (pv_cons wqz pv_nil) underlying350 z350 (pl350 underlying350) rfl) ?_;refine tl_u rfl (o_stUN (l':=[vn 0,.string (sob []),.int .i64 140]) rfl (by repeat (first|with_reducible exact upd_here|with_reducible exact upd_pt|apply upd_left)) sz350 rfl rfl rfl (by exact Nat.le_refl 3) rfl) ?_;refine Ycz ?_;refine Yhi ?_;refine tlm ?_;refine tl_v rfl (o_loadN a350 sz350 rfl (by repeat (first|with_reducible exact has_here|with_reducible exact has_pt|apply has_left)) (by exact Nat.le_refl 3) rfl) ?_;refine tl_env (d:=26) (v:=lkV (L.getD k (0,[],0))) (by rw [hgd];rfl) ?_;refine tl_y rfl rfl rfl (yd_b (F:=pt q1 (cl [.int .u32 ((ref:Nat):Int)] 53)*pt q2 (cl [.pointer (some ⟨X.w,0,none⟩)] 46)*WkA X Y s*pt b6 (cl [vn 0,.string (sob []),.int .i64 140] 350)) (G:=λ S'=>S'*pt q1 (cl [.int .u32 ((ref:Nat):Int)] 53)*pt q2 (cl [.pointer (some ⟨X.w,0,none⟩)] 46)*WkA X Y s*pt b6 (cl [vn 0,.string (sob []),.int .i64 140] 350)) (hY _ k S hkL hp1) (by ac_rfl) (λ S'=>by ac_rfl)) ?_;rintro _ _ ⟨b27,S2,rfl,hT,hF,rfl⟩;refine tl_v rfl (o_not rfl) ?_;refine tlm ?_;refine tl_bool (d:=29) rfl (λ h=> ?_) (λ h=> ?_)
      . have hb9:b27=false:=(by simpa using h);subst hb9;refine tl_skip rfl ?_;refine tl_skip rfl ?_;refine tl_skip rfl ?_;refine tl_v rfl (o_pick_t rfl wqz) ?_;refine Ycz ?_;refine tc_cond_t rfl ?_;refine Yfr ?_;exact ⟨[],_,rfl,λ _ _ h=>mk0 h,.tuple #[],S2*pt q1 (cl [.int .u32 ((ref:Nat):Int)] 53)*pt q2 (cl [.pointer (some ⟨X.w,0,none⟩)] 46)*WkA X Y s,res0 rfl,Dr.sat (by repeat (first|with_reducible exact dr_refl|apply dr_keep|apply dr_drop)),rfl,.inr ⟨S2,hF rfl,rfl⟩⟩
      have hb9:b27=true:=(by simpa using h);subst hb9;refine Ycl ?_;refine tl_v rfl (o_nei rfl rfl) ?_;refine tl_v rfl (o_pick_f rfl wqz) ?_;refine Ycz ?_;refine tc_cond rfl (λ h=> ?_) dbq;have he9:True:=trivial;refine Yfr ?_;exact ⟨[],_,rfl,λ _ _ h=>mk0 h,.tuple #[],S2*pt q1 (cl [.int .u32 ((ref:Nat):Int)] 53)*pt q2 (cl [.pointer (some ⟨X.w,0,none⟩)] 46)*WkA X Y s,res0 rfl,Dr.sat (by repeat (first|with_reducible exact dr_refl|apply dr_keep|apply dr_drop)),rfl,.inl ⟨S2,by rw [hLn];exact hT rfl,rfl⟩⟩
    have hm9:¬65536<m+l14.2.1.length:=(by first|omega|(simp at h;omega));have hcut:cutL m l14=l14:=cut_ok hm9;have hgk:k<L.length/\ L.getD k (0,[],0)=l14:=(by by_cases h8:l14.2.2=0;(have hd:=hp2.trans (ch_ok oqz oqz hl14 (by rw [hcut];exact h8));rw [hcut] at hd;have:=drop_more hd;exact ⟨by omega,this.2.1⟩);(have hd:=hp2.trans (ch_err oqz oqz hl14 (by rw [hcut];exact h8));rw [hcut] at hd;have:=drop_one hd;exact ⟨by omega,this.2⟩));obtain ⟨hkL,hgd⟩:=hgk;refine Yh4 ?_;refine Yhi ?_;refine tlm ?_;refine tl_v rfl (o_loadN a350 sz350 rfl (by repeat (first|with_reducible exact has_here|with_reducible exact has_pt|apply has_left)) (by exact Nat.le_refl 3) rfl) ?_;refine tl_env (d:=26) (v:=lkV (L.getD k (0,[],0))) (by rw [hgd];rfl) ?_;refine tl_y rfl rfl rfl (yd_b (F:=pt q1 (cl [.int .u32 ((ref:Nat):Int)] 53)*pt q2 (cl [.pointer (some ⟨X.w,0,none⟩)] 46)*WkA X Y s*pt b6 (cl [vn l14.1,.string (sob l14.2.1),.int .i64 l14.2.2] 350)) (G:=λ S'=>S'*pt q1 (cl [.int .u32 ((ref:Nat):Int)] 53)*pt q2 (cl [.pointer (some ⟨X.w,0,none⟩)] 46)*WkA X Y s*pt b6 (cl [vn l14.1,.string (sob l14.2.1),.int .i64 l14.2.2] 350)) (hY _ k S hkL hp1) (by ac_rfl) (λ S'=>by ac_rfl)) ?_;rintro _ _ ⟨b27,S2,rfl,hT,hF,rfl⟩;refine tl_v rfl (o_not rfl) ?_;refine tlm ?_;refine tl_bool (d:=29) rfl (λ h=> ?_) (λ h=> ?_)
    . have hb9:b27=false:=(by simpa using h);subst hb9;refine tl_skip rfl ?_;refine tl_skip rfl ?_;refine tl_skip rfl ?_;refine tl_v rfl (o_pick_t rfl wqz) ?_;refine Ycz ?_;refine tc_cond_t rfl ?_;refine Yfr ?_;exact ⟨[],_,rfl,λ _ _ h=>mk0 h,.tuple #[],S2*pt q1 (cl [.int .u32 ((ref:Nat):Int)] 53)*pt q2 (cl [.pointer (some ⟨X.w,0,none⟩)] 46)*WkA X Y s,res0 rfl,Dr.sat (by repeat (first|with_reducible exact dr_refl|apply dr_keep|apply dr_drop)),rfl,.inr ⟨S2,hF rfl,rfl⟩⟩
    have hb9:b27=true:=(by simpa using h);subst hb9;refine Ycl ?_;refine tl_v rfl (o_nei rfl rfl) ?_;refine tl_v rfl (o_pick_f rfl wqz) ?_;refine Ycz ?_;refine tc_cond rfl (λ h=> ?_) (λ h=> ?_)
    . have he9:l14.2.2≠0:=(by first|exact of_decide_eq_true h|simpa using h);have hd:=hp2.trans (ch_err oqz oqz hl14 (by rw [hcut];exact he9));rw [hcut] at hd
      obtain ⟨hLn,_⟩:=drop_one hd;refine Yfr ?_;exact ⟨[],_,rfl,λ _ _ h=>mk0 h,.tuple #[],S2*pt q1 (cl [.int .u32 ((ref:Nat):Int)] 53)*pt q2 (cl [.pointer (some ⟨X.w,0,none⟩)] 46)*WkA X Y s,res0 rfl,Dr.sat (by repeat (first|with_reducible exact dr_refl|apply dr_keep|apply dr_drop)),rfl,.inl ⟨S2,by rw [hLn];exact hT rfl,rfl⟩⟩
    have he9:l14.2.2=0:=(by simpa using h);have hd:=hp2.trans (ch_ok oqz oqz hl14 (by rw [hcut];exact he9));rw [hcut] at hd
    obtain ⟨hLn,_,hdr⟩:=drop_more hd;rw [Nat.sub_sub] at hdr
    obtain ⟨hnx,hd1⟩:nx14<4294967296/\ 1<=l14.2.1.length:=by rcases hcs with h8|⟨b,next,d,_,_,_,h7,_,_,h8,h9⟩;(exfalso;rw [(Prod.mk.inj h8).1] at he9;exact absurd he9 (by decide));(obtain ⟨h5,h6⟩:=Prod.mk.inj h9;exact ⟨by have:nx14=next:=h6;omega,by rw [h5];exact h7⟩)
    refine Yh4 ?_;refine tc_reg ?_;refine tlm ?_;refine tla ?_;refine tl_nil ?_;refine q_block_n (q_then_n ?_);exact ⟨_,by omega,k+1,_,_,_,by omega,hT rfl,hdr,rfl,rfl,rfl,rfl,rfl,rfl,(by repeat (first|with_reducible exact dr_refl|apply dr_keep|apply dr_drop))⟩
  obtain ⟨hk1,hk2,hk3,hr2⟩:=hp0;obtain rfl:r2=0:=by first|omega|(simp at h;omega)
  refine tc_exit ?_;refine q_then_e (q_then_e (q_block_x ?_));have hLn:L.length=k:=(by rw [ch_zero] at hp2;have:=congrArg List.length hp2;rw [List.length_drop,List.length_nil] at this;omega);exact ⟨[],_,rfl,λ _ _ h=>mk0 h,.tuple #[],S*pt q1 (cl [.int .u32 ((ref:Nat):Int)] 53)*pt q2 (cl [.pointer (some ⟨X.w,0,none⟩)] 46)*WkA X Y s,res0 rfl,Dr.sat (by repeat (first|with_reducible exact dr_refl|apply dr_keep|apply dr_drop)),rfl,.inl ⟨S,by rw [hLn];exact hp1,rfl⟩⟩
end Rg
theorem chain_c {A:SP}{w:Nat}{ref:Nat}:
    Fn Tryz.prog 252 #[pz w,.int .u32 ((ref:Nat):Int)] A (λ r B=>∃q1 q2,r= .func (.func 295) #[] #[pz q1,pz q2]/\ B=A*pt q2 (cl [pz w] 46)*pt q1 (cl [.int .u32 ((ref:Nat):Int)] 53)):=by
  refine fn_enterW func252 rfl ntmps252 (by simp) ?_;refine Zfg ?_;rintro _ _ ⟨b2,rfl,rfl⟩;refine tl_x rfl (o_box rfl rfl) ?_;rintro _ _ ⟨b3,rfl,rfl⟩;refine Za ?_;refine sr ?_;refine tv (o_makeFunc (fs:=[]) (cs:=[pz b3,pz b2]) rfl rfl) ?_;refine Zbd ?_;exact ⟨_,_,res1 rfl rfl,λ _ _ h=>h,b3,b2,rfl,rfl⟩
theorem chain_it {q1 q2:Nat}{X:WkX}{Y:WkY}{T:WkT}{s:DevS}(hok:WkOk X Y T (s.ls.length*64))(hb:WkB X s)(ho:s.off=false){ref:Nat}(hr1:ref<4294967296){L:List Lk}(hL:chL (lnkS (usedB T) (conB T s X.ba)) 65538 ref 0=L):Rg.It Tryz.prog 295 [] [pz q1,pz q2] (pt q1 (cl [.int .u32 ((ref:Nat):Int)] 53)*pt q2 (cl [.pointer (some ⟨X.w,0,none⟩)] 46)*WkA X Y s) L.length (λ i=>[lkV (L.getD i (0,[],0))]):=λ l J XX S0 h0 hY=>by
  have hk:∀S:SP,S*(pt q1 (cl [.int .u32 ((ref:Nat):Int)] 53)*pt q2 (cl [.pointer (some ⟨X.w,0,none⟩)] 46)*WkA X Y s)=S*pt q1 (cl [.int .u32 ((ref:Nat):Int)] 53)*pt q2 (cl [.pointer (some ⟨X.w,0,none⟩)] 46)*WkA X Y s:=λ S=>starM3 _ _ _ _
  rw [hk S0]
  refine (Rg.chain1_f (J:=J) (XX:=XX) hok hb ho hr1 hL h0 hY).mono ?_;rintro v B ⟨rfl,⟨S,hS,rfl⟩|⟨S,hS,rfl⟩⟩
  . exact ⟨rfl,.inl ⟨S,hS,(hk S).symm⟩⟩
  exact ⟨rfl,.inr ⟨S,hS,(hk S).symm⟩⟩
theorem chL_len (f:Nat->Lk×Nat):∀k ref m,(chL f k ref m).length<=k
  |0,ref,m=>by simp [chL]
  |k+1,ref,m=>by
    unfold chL
    split
    . simp
    split
    . simp
    rw [List.length_cons];have:=chL_len f k (f ref).2 (m+(f ref).1.2.1.length);omega
theorem chL_mem (f:Nat->Lk×Nat):∀k ref m,∀x∈chL f k ref m,∃r m',r≠0/\ x=cutL m' (f r).1
  |0,ref,m,x,hx=>by simp [chL] at hx
  |k+1,ref,m,x,hx=>by
    unfold chL at hx
    split at hx
    . cases hx
    rename_i hr
    split at hx
    . rw [List.mem_singleton.1 hx];exact ⟨ref,m,hr,rfl⟩
    rcases List.mem_cons.1 hx with rfl|hx
    . exact ⟨ref,m,hr,rfl⟩
    exact chL_mem f k _ _ x hx
theorem link_ok {u:Nat->Bool}{c:Nat->List Nat}(hb:∀b,u b=true->∀x∈c b,x<256){k ref m:Nat}:∀x∈chL (lnkS u c) k ref m,x.2.1.length<=248/\ (∀y∈x.2.1,y<256)/\ ((x.2.2=0/\ 1<=x.2.1.length)∨x=(0,[],140)):=λ x hx=>by
  obtain ⟨r,m',hr,rfl⟩:=chL_mem _ _ _ _ x hx;have hno:(([]:List Nat).length<=248/\ (∀y∈([]:List Nat),y<256)):=⟨by decide,λ y hy=>by cases hy⟩
  by_cases hc:65536<m'+(lnkS u c r).1.2.1.length
  . rw [cut_no hc];exact ⟨hno.1,hno.2,.inr rfl⟩
  rw [cut_ok hc]
  rcases lnk_cases u c r hr hb with h|⟨b,next,d,rfl,h2,h3,h4,h5,h6,h7,h8⟩
  . rw [h];exact ⟨hno.1,hno.2,.inr rfl⟩
  rw [h8]
  refine ⟨h5,λ y hy=>hb b h2 y ?_,.inl ⟨rfl,h4⟩⟩;rw [h3];unfold blkS
  exact List.mem_append_left _ (List.mem_append_right _ hy)
theorem fm_len {L:List Lk}(h:∀x∈L,x.2.1.length<=248):(L.flatMap (·.2.1)).length<=248*L.length:=by
  induction L with
  |nil=>simp
  |cons x l ih=>
    rw [List.flatMap_cons,List.length_append,List.length_cons]
    have h1:=h x (List.mem_cons_self ..);have h2:=ih λ y hy=>h y (List.mem_cons_of_mem _ hy)
    omega
end Go.Vl

namespace Go.Vl
open Go Go.Proofs Go.Proofs.Tryz
theorem wh_all {u:Nat->Bool}{c:Nat->List Nat}{ref:Nat}{L:List Lk}(hL:chL (lnkS u c) 65538 ref 0=L)(h:∀j,j<L.length->(L.getD j (0,[],0)).2.2=0):whS u c ref=(L.flatMap (·.2.1),L.map (·.1),0):=by
  unfold whS whL
  rw [hL,if_pos (List.all_eq_true.2 λ x hx=>by
    obtain ⟨j,hj,rfl⟩:=List.mem_iff_getElem.1 hx;have:=h j hj;rw [List.getD_eq_getElem?_getD,List.getElem?_eq_getElem hj] at this
    exact decide_eq_true this)]
theorem wh_bad {u:Nat->Bool}{c:Nat->List Nat}{ref:Nat}{L:List Lk}{j:Nat}(hL:chL (lnkS u c) 65538 ref 0=L)(hj:j<L.length)(h:(L.getD j (0,[],0)).2.2≠0):whS u c ref=([],[],140):=by
  unfold whS whL
  rw [hL,if_neg λ ha=>h ?_]
  have:=List.all_eq_true.1 ha L[j] (List.getElem_mem hj);rw [List.getD_eq_getElem?_getD,List.getElem?_eq_getElem hj]
  exact of_decide_eq_true this
theorem take_snoc' {L:List Lk}{i:Nat}(h:i<L.length):L.take (i+1)=L.take i++[L.getD i (0,[],0)]:=by
  rw [List.take_succ_eq_append_getElem h,List.getD_eq_getElem?_getD,List.getElem?_eq_getElem h];rfl
theorem getD_mem' {L:List Lk}{i:Nat}(h:i<L.length):L.getD i (0,[],0)∈L:=by
  rw [List.getD_eq_getElem?_getD,List.getElem?_eq_getElem h];exact List.getElem_mem h
attribute [local irreducible] crk crL crc Sl pt ro Dev imgS recS readS recsF rdW rdO rkT Parts rvl recordsS runsL adrF kcl xcl kys runA runsF layF ovF TxA adZ WkA SlB blkS conB
namespace Rg
theorem Ycd {p r:Prop}(k:r)(h:Kq r->p:=by intro k;refine th_one (i:=2) kqz ?_;refine oh_u rfl rfl rfl (o_stU rfl (by repeat (first|with_reducible exact upd_here|with_reducible exact upd_pt|apply upd_left)) sz9 rfl rfl (by first|decide|simp|omega) rfl) (by repeat (first|with_reducible exact dr_refl|apply dr_keep|apply dr_drop)) ?_;exact k.o):p:=h ⟨k⟩
theorem Ybi {p r:Prop}(k:r)(h:Kq r->p:=by intro k;refine th_one (i:=3) kqz ?_;refine oh_u rfl rfl rfl (o_stU rfl (by repeat (first|with_reducible exact upd_here|with_reducible exact upd_pt|apply upd_left)) sz34 rfl rfl (by first|decide|simp|omega) rfl) (by repeat (first|with_reducible exact dr_refl|apply dr_keep|apply dr_drop)) ?_;exact k.o):p:=h ⟨k⟩
theorem Y6 {p r:Prop}(k:r)(h:Kq r->p:=by intro k;refine th_one (i:=4) kqz ?_;refine oh_u rfl rfl rfl (o_stU rfl (by repeat (first|with_reducible exact upd_here|with_reducible exact upd_pt|apply upd_left)) sz24 rfl rfl (by first|decide|simp|omega) rfl) (by repeat (first|with_reducible exact dr_refl|apply dr_keep|apply dr_drop)) ?_;exact k.o):p:=h ⟨k⟩
theorem Yih {p r:Prop}(k:r)(h:Kq r->p:=by intro k;refine th_done kqz ?_;refine q_then_n ?_;refine tc_ret ?_;exact k.o):p:=h ⟨k⟩
theorem Yhs {p r:Prop}(k:r)(h:Kq r->p:=by intro k;rintro _ _ ⟨rfl,rfl⟩;refine ⟨by repeat (first|with_reducible exact dr_refl|apply dr_keep|apply dr_drop), ?_⟩;exact k.o):p:=h ⟨k⟩
theorem whole_c {A R:SP}{C:SP->SP}{X:WkX}{Y:WkY}{T:WkT}{s:DevS}(hc:Ct A (WkA X Y s) R C:=by repeat (first|with_reducible exact ct_here|apply ct_left))(hok:WkOk X Y T (s.ls.length*64))(hb:WkB X s)(ho:s.off=false:=by assumption){ref:Nat}(hr1:ref<4294967296:=by omega):
    Fn Tryz.prog 180 #[.pointer (some ⟨X.w,0,none⟩),.int .u32 ((ref:Nat):Int)] A (λ r B=>∃t l e a n c,(whS (usedB T) (conB T s X.ba) ref)=(t,l,e)/\ r= .tuple #[.string (sob t),.slice a n c,.int .i64 e]/\ (l.length=n/\ n<=c)/\ B=A*Sl 1 (.slice a n c) n (ints (natI l))):=by
  refine fn_enterW func180 rfl ntmps180 (by simp) ?_;obtain ⟨hb1,hb2,hb3⟩:=id hb;obtain ⟨rfl,hC⟩:=hc;obtain ⟨L,hL⟩:∃L,chL (lnkS (usedB T) (conB T s X.ba)) 65538 ref 0=L:=⟨_,rfl⟩;have hLk:=link_ok (u:=usedB T) (c:=conB T s X.ba) (λ b _=>con_lt hok) (k:=65538) (ref:=ref) (m:=0);rw [hL] at hLk
  have hLl:=chL_len (lnkS (usedB T) (conB T s X.ba)) 65538 ref 0;rw [hL] at hLl
  refine Ydo ?_;refine tl_x rfl (o_alloc (l:=[.string (sob [])]) z9 rfl) ?_;rintro _ _ ⟨b4,rfl,rfl⟩;refine tl_x rfl (o_alloc (l:=[.slice none 0 0]) z34 rfl) ?_;rintro _ _ ⟨b5,rfl,rfl⟩;refine tl_x rfl (o_alloc (l:=[.int .i64 0]) z24 rfl) ?_;rintro _ _ ⟨b6,rfl,rfl⟩;refine Ycz ?_;refine Yhi ?_;refine tlm ?_;refine tl_c rfl (o_call bd178 rfl (readyB_c (X:=X) (Y:=Y) (T:=T) (s:=s) (hok:=hok) (hb:=hb))) ?_;rintro _ _ ⟨rfl,rfl⟩;refine tla ?_;refine Ycz ?_;refine Ydo ?_;refine tlm ?_;refine tl_v rfl (o_nei rfl rfl) ?_;refine Ycz ?_;refine tc_cond rfl dbq (sbq ?_);intro h;refine Yh4 ?_;refine Ydo ?_;refine tl_x rfl (o_alloc (l:=[.pointer none,.slice none 0 0]) z345 rfl) ?_;rintro _ _ ⟨b8,rfl,rfl⟩;refine Ycz ?_;refine Ydo ?_;refine tl_x rfl (o_alloc (l:=[.slice none 0 0]) z34 rfl) ?_;rintro _ _ ⟨b9,rfl,rfl⟩;refine Ycz ?_;refine Yhi ?_;refine tlm ?_;refine tlm ?_;refine tl_c rfl (o_call bd252 rfl (chain_c (w:=X.w) (ref:=ref))) ?_;rintro _ _ ⟨q18,q19,rfl,rfl⟩;refine Ycz ?_;refine tc_block ?_;refine tc_rangeI (K:=(pt q18 (cl [.int .u32 ((ref:Nat):Int)] 53)*pt q19 (cl [.pointer (some ⟨X.w,0,none⟩)] 46)*WkA X Y s)) (N:=L.length) (A0:=R*pt b4 (cl [.string (sob [])] 9)*pt b5 (cl [.slice none 0 0] 34)*pt b6 (cl [.int .i64 0] 24)*pt b9 (cl [.slice none 0 0] 34)*Sl 1 (.slice none 0 0) 0 (ints (natI []))*pt b8 (cl [.pointer none,.slice none 0 0] 345)*SlB 5 (.slice none 0 0) 0 (bys [])) (λ i S=>∃ (p:Value) (ab:Option Addr) (n:Nat) (cb:Nat) (al:Option Addr) (c2:Nat),(p= .pointer none∨p=(pz b8))/\ (n=((L.take i).flatMap (·.2.1)).length)/\ (0<n∨ab=none)/\ (i<=c2)/\ (∀j,j<i->(L.getD j (0,[],0)).2.2=0)/\ S=R*pt b4 (cl [.string (sob [])] 9)*pt b5 (cl [.slice none 0 0] 34)*pt b6 (cl [.int .i64 0] 24)*pt b9 (cl [.slice al i c2] 34)*Sl 1 (.slice al i c2) i (ints (natI ((L.take i).map (·.1))))*pt b8 (cl [p,.slice ab n cb] 345)*SlB 5 (.slice ab n cb) n (bys ((L.take i).flatMap (·.2.1)))) (λ j S=>j= .ret/\ ((whS (usedB T) (conB T s X.ba) ref)=([],[],140))/\ S=R*pt b4 (cl [.string (sob [])] 9)*pt b5 (cl [.slice none 0 0] 34)*pt b6 (cl [.int .i64 140] 24)) rfl bd295 (chain_it (X:=X) (Y:=Y) (T:=T) (s:=s) (q1:=q18) (q2:=q19) hok hb ho hr1 hL) (λ _=>rfl) rfl (λ _ _ h=>(slb_nil (e:=5) (sl_nil (k:=1) h)).perm (by ac_rfl)) (⟨.pointer none,none,0,0,none,0,.inl rfl,rfl,.inr rfl,by omega,by intro j hj;omega,rfl⟩) ?_ ?_ ?_
  . intro l F i S hi hI;obtain ⟨p,ab,n,cb,al,c2,hi0,hi1,hi2,hi3,hi4,rfl⟩:=hI;refine tc_eq (by simp only [←star_assoc];rfl) ?_;obtain ⟨x,hx⟩:∃x,L.getD i (0,[],0)=x:=⟨_,rfl⟩;obtain ⟨hx1,hx2,hx3⟩:=hLk x (hx▸getD_mem' hi);have hnb:=fm_len (L:=L.take i) (λ y hy=>(hLk y (List.mem_of_mem_take hy)).1);rw [List.length_take] at hnb
    have hsn:=take_snoc' hi;rw [hx] at hsn
    have htx:((L.take (i+1)).flatMap (·.2.1))=((L.take i).flatMap (·.2.1))++sbys (sob x.2.1):=(by rw [hsn,List.flatMap_append,sobB hx2];simp);have hnu:((L.take (i+1)).map (·.1))=((L.take i).map (·.1))++[x.1]:=(by rw [hsn,List.map_append];rfl);refine tc_env (d:=19) (v:=lkV x) (by rw [←hx];rfl) ?_;refine tc_reg ?_;refine tl_x rfl (o_alloc (l:=[vn 0,.string (sob []),.int .i64 0]) z350 rfl) ?_;rintro _ _ ⟨b10,rfl,rfl⟩;refine tl_u rfl (o_stUN (l':=[vn x.1,.string (sob x.2.1),.int .i64 x.2.2]) rfl (by repeat (first|with_reducible exact upd_here|with_reducible exact upd_pt|apply upd_left)) sz350 rfl rfl rfl (by exact Nat.le_refl 3) rfl) ?_;refine tl_nil ?_;refine ⟨R*pt b4 (cl [.string (sob [])] 9)*pt b5 (cl [.slice none 0 0] 34)*pt b6 (cl [.int .i64 0] 24)*pt b9 (cl [.slice al i c2] 34)*Sl 1 (.slice al i c2) i (ints (natI ((L.take i).map (·.1))))*pt b8 (cl [p,.slice ab n cb] 345)*SlB 5 (.slice ab n cb) n (bys ((L.take i).flatMap (·.2.1)))*pt b10 (cl [vn x.1,.string (sob x.2.1),.int .i64 x.2.2] 350),λ g w h=>by simp only [←star_assoc];exact Dr.sat (by repeat (first|with_reducible exact dr_refl|apply dr_keep|apply dr_drop)) g w h,λ F=> ?_⟩;refine tc_eq (by simp only [←star_assoc];rfl) ?_;refine tc_block ?_;refine Yhi ?_;refine Ycl ?_;refine tl_v rfl (o_nei rfl rfl) ?_;refine Ycz ?_;refine tc_cond rfl (λ h=> ?_) (λ h=> ?_)
    . have hne:x.2.2≠0:=(by first|exact of_decide_eq_true h|simpa using h);have he140:x.2.2=140:=(by rcases hx3 with h8|h8;exact absurd h8.1 hne;rw [h8]);refine tc_seq ?_;refine tc_regh (S:=F*R*pt b10 (cl [vn x.1,.string (sob x.2.1),.int .i64 x.2.2] 350)) mo (by repeat (first|with_reducible exact dr_refl|apply dr_keep|apply dr_drop)) ?_
      show TH _ _ _ _ _ 5 (Array.replicate 5 false) _ _
      refine th_take (i:=0) rfl kqz kqz kqz rfl rfl (o_fieldAddr (o:=2) underlying350 rfl rfl sz24 rfl) ?_;refine th_two (i:=1) (j:=2) kqz ?_ ?_
      . skip
        refine oh_v rfl rfl rfl (by first|exact o_load p24 rfl (by repeat (first|with_reducible exact has_here|with_reducible exact has_pt|apply has_left)) rfl|exact o_loadC p24 rfl (by assumption)) ?_;refine th_env (d:=24) (v:= .int .i64 140) (by show Value.int .i64 x.2.2=_;rw [he140]) ?_;refine Ycd ?_;refine Ybi ?_;refine Y6 ?_;refine Yih ?_;refine q_then_r (q_block_r ?_);exact ⟨R*pt b4 (cl [.string (sob [])] 9)*pt b5 (cl [.slice none 0 0] 34)*pt b6 (cl [.int .i64 140] 24),λ g w h=>by simp only [←star_assoc];exact Dr.sat (by repeat (first|with_reducible exact dr_refl|apply dr_keep|apply dr_drop)) g w h,rfl,wh_bad hL hi (by rw [hx];exact hne),rfl⟩
      . skip
        refine oh_u rfl rfl rfl (o_stU rfl (by repeat (first|with_reducible exact upd_here|with_reducible exact upd_pt|apply upd_left)) sz9 rfl rfl (by first|decide|simp|omega) rfl) (by repeat (first|with_reducible exact dr_refl|apply dr_keep|apply dr_drop)) ?_;refine th_two (i:=1) (j:=3) kqz ?_ ?_
        . skip
          refine oh_v rfl rfl rfl (by first|exact o_load p24 rfl (by repeat (first|with_reducible exact has_here|with_reducible exact has_pt|apply has_left)) rfl|exact o_loadC p24 rfl (by assumption)) ?_;refine th_env (d:=24) (v:= .int .i64 140) (by show Value.int .i64 x.2.2=_;rw [he140]) ?_;refine Ybi ?_;refine Y6 ?_;refine Yih ?_;refine q_then_r (q_block_r ?_);exact ⟨R*pt b4 (cl [.string (sob [])] 9)*pt b5 (cl [.slice none 0 0] 34)*pt b6 (cl [.int .i64 140] 24),λ g w h=>by simp only [←star_assoc];exact Dr.sat (by repeat (first|with_reducible exact dr_refl|apply dr_keep|apply dr_drop)) g w h,rfl,wh_bad hL hi (by rw [hx];exact hne),rfl⟩
        . skip
          refine oh_u rfl rfl rfl (o_stU rfl (by repeat (first|with_reducible exact upd_here|with_reducible exact upd_pt|apply upd_left)) sz34 rfl rfl (by first|decide|simp|omega) rfl) (by repeat (first|with_reducible exact dr_refl|apply dr_keep|apply dr_drop)) ?_;refine th_one (i:=1) kqz ?_;refine oh_v rfl rfl rfl (by first|exact o_load p24 rfl (by repeat (first|with_reducible exact has_here|with_reducible exact has_pt|apply has_left)) rfl|exact o_loadC p24 rfl (by assumption)) ?_;refine th_env (d:=24) (v:= .int .i64 140) (by show Value.int .i64 x.2.2=_;rw [he140]) ?_;refine Y6 ?_;refine Yih ?_;refine q_then_r (q_block_r ?_);exact ⟨R*pt b4 (cl [.string (sob [])] 9)*pt b5 (cl [.slice none 0 0] 34)*pt b6 (cl [.int .i64 140] 24),λ g w h=>by simp only [←star_assoc];exact Dr.sat (by repeat (first|with_reducible exact dr_refl|apply dr_keep|apply dr_drop)) g w h,rfl,wh_bad hL hi (by rw [hx];exact hne),rfl⟩
    have he0:x.2.2=0:=(by simpa using h);have hx10:1<=x.2.1.length:=(by rcases hx3 with h8|h8;exact h8.2;(rw [h8] at he0;exact absurd he0 (by decide)));refine Yh4 ?_;refine Ydo ?_;refine tl_v rfl (o_fieldAddr (o:=1) underlying350 rfl rfl sz9 rfl) ?_;refine tl_v rfl (by first|exact o_load p9 rfl (by repeat (first|with_reducible exact has_here|with_reducible exact has_pt|apply has_left)) rfl|exact o_loadC p9 rfl (by assumption)) ?_;refine tl_c rfl (o_call bd253 rfl (Fn.pre (bws_f (F*R*pt b4 (cl [.string (sob [])] 9)*pt b5 (cl [.slice none 0 0] 34)*pt b6 (cl [.int .i64 0] 24)*pt b9 (cl [.slice al i c2] 34)*Sl 1 (.slice al i c2) i (ints (natI ((L.take i).map (·.1))))*pt b10 (cl [vn x.1,.string (sob x.2.1),.int .i64 x.2.2] 350)) (a:=ab) (c:=cb) (xs:=((L.take i).flatMap (·.2.1))) (s:=sob x.2.1) (m:=x.2.1.length) hi0 (sobN _) hi1.symm oqz) (λ g w h=>(Dr.sat (A':=F*R*pt b4 (cl [.string (sob [])] 9)*pt b5 (cl [.slice none 0 0] 34)*pt b6 (cl [.int .i64 0] 24)*pt b9 (cl [.slice al i c2] 34)*Sl 1 (.slice al i c2) i (ints (natI ((L.take i).map (·.1))))*pt b8 (cl [p,.slice ab n cb] 345)*SlB 5 (.slice ab n cb) n (bys ((L.take i).flatMap (·.2.1)))*pt b10 (cl [vn x.1,.string (sob x.2.1),.int .i64 x.2.2] 350)) (by repeat (first|with_reducible exact dr_refl|apply dr_keep|apply dr_drop)) g w h).perm (by ac_rfl)))) ?_;rintro _ _ ⟨a27,c27,rfl,rfl⟩;refine Ycz ?_;refine tc_reg ?_;refine tl_v rfl (by first|exact o_load p34 rfl (by repeat (first|with_reducible exact has_here|with_reducible exact has_pt|apply has_left)) rfl|exact o_loadC p34 rfl (by assumption)) ?_;refine tl_v rfl (o_fieldAddr (o:=0) underlying350 rfl rfl sz3 rfl) ?_;refine tl_v rfl (by first|exact o_load p3 rfl (by repeat (first|with_reducible exact has_here|with_reducible exact has_pt|apply has_left)) rfl|exact o_loadC p3 rfl (by assumption)) ?_;refine tl_x rfl (o_buildSlice1 underlying34 sz3 z3 wqz rfl) ?_;rintro _ _ ⟨b31,rfl,rfl⟩;refine tl_x rfl (o_apB underlying34 underlying34 sz3 by3 z3 rfl (by decide) (by decide) rfl rfl rfl (by repeat (first|with_reducible exact ct_here|apply ct_left)) rfl (by first|exact bys_all _|exact ints_all _|exact wds_all _|exact bos_all _|rfl) (by first|omega|(simp only [bys_length,ints_length,wds_length,bos_length,List.length_append,List.length_take,List.length_drop,List.length_singleton];omega)) (natI_snoc ((L.take i).map (·.1)) x.1)) ?_;rintro _ _ ⟨a32,c32,rfl,hc32,rfl⟩;refine tl_u rfl (o_stU rfl (by repeat (first|with_reducible exact upd_here|with_reducible exact upd_pt|apply upd_left)) sz34 rfl rfl (by first|decide|simp|omega) rfl) ?_;refine tl_nil ?_;refine q_block_n ?_;exact ⟨R*pt b4 (cl [.string (sob [])] 9)*pt b5 (cl [.slice none 0 0] 34)*pt b6 (cl [.int .i64 0] 24)*pt b9 (cl [.slice a32 (i+1) c32] 34)*Sl 1 (.slice a32 (i+1) c32) (i+1) (ints (natI (((L.take i).map (·.1))++[x.1])))*pt b8 (cl [pz b8,.slice a27 (n+x.2.1.length) c27] 345)*SlB 5 (.slice a27 (n+x.2.1.length) c27) (n+x.2.1.length) (bys (((L.take i).flatMap (·.2.1))++sbys (sob x.2.1))),λ g w h=>by simp only [←star_assoc];exact Dr.sat (by repeat (first|with_reducible exact dr_refl|apply dr_keep|apply dr_drop)) g w h,pz b8,a27,n+x.2.1.length,c27,a32,c32,.inr rfl,by rw [htx,List.length_append,sbys_len,sobN,←hi1],.inl oqz,hc32,by intro j hj;rcases Nat.lt_succ_iff_lt_or_eq.1 hj with h1|rfl;exact hi4 j h1;rw [hx];exact he0,by rw [htx,hnu]⟩
  . intro r S hI;obtain ⟨p,ab,n,cb,al,c2,hi0,hi1,hi2,hi3,hi4,rfl⟩:=hI;refine q_block_n (q_then_n ?_);refine tc_seq ?_;refine tc_eq (by rw [starM3,List.take_length]) ?_;rw [List.take_length] at hi1
    refine tc_regh (S:=R) mo (by repeat (first|with_reducible exact dr_refl|apply dr_keep|apply dr_drop)) ?_
    show TH _ _ _ _ _ 5 (Array.replicate 5 false) _ _
    refine th_two (i:=0) (j:=1) kqz ?_ ?_
    . skip
      refine oh_c rfl rfl rfl (o_call bd254 rfl (Fn.pre (bs_f (R*pt b4 (cl [.string (sob [])] 9)*pt b5 (cl [.slice none 0 0] 34)*pt b6 (cl [.int .i64 0] 24)*pt b9 (cl [.slice al L.length c2] 34)*Sl 1 (.slice al L.length c2) L.length (ints (natI (L.map (·.1))))*pt q18 (cl [.int .u32 ((ref:Nat):Int)] 53)*pt q19 (cl [.pointer (some ⟨X.w,0,none⟩)] 46)*WkA X Y s*pt r mkO) (n:=n) (xs:=L.flatMap (·.2.1)) hi1.symm hi2 (λ y hy=>by obtain ⟨x,hx,h9⟩:=List.mem_flatMap.1 hy;exact (hLk x hx).2.1 y h9) (by rw [hi1];have:=fm_len (λ x hx=>(hLk x hx).1);omega)) (λ g w h=>(Dr.sat (A':=R*pt b4 (cl [.string (sob [])] 9)*pt b5 (cl [.slice none 0 0] 34)*pt b6 (cl [.int .i64 0] 24)*pt b9 (cl [.slice al L.length c2] 34)*Sl 1 (.slice al L.length c2) L.length (ints (natI (L.map (·.1))))*pt b8 (cl [p,.slice ab n cb] 345)*SlB 5 (.slice ab n cb) n (bys (L.flatMap (·.2.1)))*pt q18 (cl [.int .u32 ((ref:Nat):Int)] 53)*pt q19 (cl [.pointer (some ⟨X.w,0,none⟩)] 46)*WkA X Y s*pt r mkO) (by repeat (first|with_reducible exact dr_refl|apply dr_keep|apply dr_drop)) g w h).perm (by ac_rfl)))) ?_;refine Yhs ?_;refine th_two (i:=1) (j:=2) kqz ?_ ?_
      . skip
        refine oh_v rfl rfl rfl (by first|exact o_load p34 rfl (by repeat (first|with_reducible exact has_here|with_reducible exact has_pt|apply has_left)) rfl|exact o_loadC p34 rfl (by assumption)) ?_;refine Ycd ?_;refine Ybi ?_;refine Y6 ?_;refine Yih ?_;have hw9:=wh_all hL hi4;exact ⟨[r],_,rfl,λ _ _ h=>mk1 h,.tuple #[.string (sob (L.flatMap (·.2.1))),.slice al L.length c2,.int .i64 0],R*WkA X Y s*Sl 1 (.slice al L.length c2) L.length (ints (natI (L.map (·.1)))),resA3 rfl (rv_cell1 p9 rfl (by repeat (first|with_reducible exact has_here|with_reducible exact has_pt|apply has_left)) rfl) (rv_cell1 p34 rfl (by repeat (first|with_reducible exact has_here|with_reducible exact has_pt|apply has_left)) rfl) (rv_cell1 p24 rfl (by repeat (first|with_reducible exact has_here|with_reducible exact has_pt|apply has_left)) rfl),(λ g w h=>(Dr.sat (A':=R*Sl 1 (.slice al L.length c2) L.length (ints (natI (L.map (·.1))))*WkA X Y s) (by repeat (first|with_reducible exact dr_refl|apply dr_keep|apply dr_drop)) g w h).perm (by ac_rfl)),_,_,_,al,L.length,c2,hw9,rfl,⟨by rw [List.length_map],hi3⟩,rfl⟩
      . skip
        refine oh_u rfl rfl rfl (o_stU rfl (by repeat (first|with_reducible exact upd_here|with_reducible exact upd_pt|apply upd_left)) sz9 rfl rfl (by first|decide|simp|omega) rfl) (by repeat (first|with_reducible exact dr_refl|apply dr_keep|apply dr_drop)) ?_;refine th_one (i:=1) kqz ?_;refine oh_v rfl rfl rfl (by first|exact o_load p34 rfl (by repeat (first|with_reducible exact has_here|with_reducible exact has_pt|apply has_left)) rfl|exact o_loadC p34 rfl (by assumption)) ?_;refine Ybi ?_;refine Y6 ?_;refine Yih ?_;have hw9:=wh_all hL hi4;exact ⟨[r],_,rfl,λ _ _ h=>mk1 h,.tuple #[.string (sob (L.flatMap (·.2.1))),.slice al L.length c2,.int .i64 0],R*WkA X Y s*Sl 1 (.slice al L.length c2) L.length (ints (natI (L.map (·.1)))),resA3 rfl (rv_cell1 p9 rfl (by repeat (first|with_reducible exact has_here|with_reducible exact has_pt|apply has_left)) rfl) (rv_cell1 p34 rfl (by repeat (first|with_reducible exact has_here|with_reducible exact has_pt|apply has_left)) rfl) (rv_cell1 p24 rfl (by repeat (first|with_reducible exact has_here|with_reducible exact has_pt|apply has_left)) rfl),(λ g w h=>(Dr.sat (A':=R*Sl 1 (.slice al L.length c2) L.length (ints (natI (L.map (·.1))))*WkA X Y s) (by repeat (first|with_reducible exact dr_refl|apply dr_keep|apply dr_drop)) g w h).perm (by ac_rfl)),_,_,_,al,L.length,c2,hw9,rfl,⟨by rw [List.length_map],hi3⟩,rfl⟩
    . skip
      refine oh_v rfl rfl rfl (by first|exact o_load p34 rfl (by repeat (first|with_reducible exact has_here|with_reducible exact has_pt|apply has_left)) rfl|exact o_loadC p34 rfl (by assumption)) ?_;refine th_one (i:=0) kqz ?_;refine oh_c rfl rfl rfl (o_call bd254 rfl (Fn.pre (bs_f (R*pt b4 (cl [.string (sob [])] 9)*pt b5 (cl [.slice none 0 0] 34)*pt b6 (cl [.int .i64 0] 24)*pt b9 (cl [.slice al L.length c2] 34)*Sl 1 (.slice al L.length c2) L.length (ints (natI (L.map (·.1))))*pt q18 (cl [.int .u32 ((ref:Nat):Int)] 53)*pt q19 (cl [.pointer (some ⟨X.w,0,none⟩)] 46)*WkA X Y s*pt r mkO) (n:=n) (xs:=L.flatMap (·.2.1)) hi1.symm hi2 (λ y hy=>by obtain ⟨x,hx,h9⟩:=List.mem_flatMap.1 hy;exact (hLk x hx).2.1 y h9) (by rw [hi1];have:=fm_len (λ x hx=>(hLk x hx).1);omega)) (λ g w h=>(Dr.sat (A':=R*pt b4 (cl [.string (sob [])] 9)*pt b5 (cl [.slice none 0 0] 34)*pt b6 (cl [.int .i64 0] 24)*pt b9 (cl [.slice al L.length c2] 34)*Sl 1 (.slice al L.length c2) L.length (ints (natI (L.map (·.1))))*pt b8 (cl [p,.slice ab n cb] 345)*SlB 5 (.slice ab n cb) n (bys (L.flatMap (·.2.1)))*pt q18 (cl [.int .u32 ((ref:Nat):Int)] 53)*pt q19 (cl [.pointer (some ⟨X.w,0,none⟩)] 46)*WkA X Y s*pt r mkO) (by repeat (first|with_reducible exact dr_refl|apply dr_keep|apply dr_drop)) g w h).perm (by ac_rfl)))) ?_;refine Yhs ?_;refine Ycd ?_;refine Ybi ?_;refine Y6 ?_;refine Yih ?_;have hw9:=wh_all hL hi4;exact ⟨[r],_,rfl,λ _ _ h=>mk1 h,.tuple #[.string (sob (L.flatMap (·.2.1))),.slice al L.length c2,.int .i64 0],R*WkA X Y s*Sl 1 (.slice al L.length c2) L.length (ints (natI (L.map (·.1)))),resA3 rfl (rv_cell1 p9 rfl (by repeat (first|with_reducible exact has_here|with_reducible exact has_pt|apply has_left)) rfl) (rv_cell1 p34 rfl (by repeat (first|with_reducible exact has_here|with_reducible exact has_pt|apply has_left)) rfl) (rv_cell1 p24 rfl (by repeat (first|with_reducible exact has_here|with_reducible exact has_pt|apply has_left)) rfl),(λ g w h=>(Dr.sat (A':=R*Sl 1 (.slice al L.length c2) L.length (ints (natI (L.map (·.1))))*WkA X Y s) (by repeat (first|with_reducible exact dr_refl|apply dr_keep|apply dr_drop)) g w h).perm (by ac_rfl)),_,_,_,al,L.length,c2,hw9,rfl,⟨by rw [List.length_map],hi3⟩,rfl⟩
  intro r j S hX;obtain ⟨rfl,hx0,rfl⟩:=hX;refine jmp_r ?_;refine q_block_r (q_then_r ?_);exact ⟨[r],_,rfl,λ _ _ h=>mk1 h,.tuple #[.string (sob []),.slice none 0 0,.int .i64 140],R*WkA X Y s*Sl 1 (.slice none 0 0) 0 (ints (natI [])),resA3 rfl (rv_cell1 p9 rfl (by repeat (first|with_reducible exact has_here|with_reducible exact has_pt|apply has_left)) rfl) (rv_cell1 p34 rfl (by repeat (first|with_reducible exact has_here|with_reducible exact has_pt|apply has_left)) rfl) (rv_cell1 p24 rfl (by repeat (first|with_reducible exact has_here|with_reducible exact has_pt|apply has_left)) rfl),(λ g w h=>by rw [starM3] at h;exact sl_nil (Dr.sat (A':=R*WkA X Y s) (by repeat (first|with_reducible exact dr_refl|apply dr_keep|apply dr_drop)) g w h)),[],[],140,none,0,0,hx0,rfl,⟨rfl,Nat.le_refl _⟩,rfl⟩
end Rg
end Go.Vl

namespace Go.Vl
open Go Go.Proofs Go.Proofs.Tryz
theorem nodup_le {l:List Nat}{n:Nat}(h:l.Nodup)(hl:∀b∈l,b<n):l.length<=n:=by
  have:=h.length_le_of_subset λ b hb=>List.mem_range.2 (hl b hb)
  rwa [List.length_range] at this
theorem wh_list {u:Nat->Bool}{c:Nat->List Nat}{ref:Nat}{t l:List Nat}{e:Int}(hb:∀b,u b=true->∀x∈c b,x<256)(h:whS u c ref=(t,l,e)):l.Nodup/\ (∀b∈l,u b=true)/\ (e=0∨(e=140/\ t=[]/\ l=[])):=by
  rcases wh_cases u c ref with ⟨t',l',h'⟩|h'
  . rw [h'] at h
    simp only [Prod.mk.injEq] at h
    obtain ⟨rfl,rfl,rfl⟩:=h;have:=(wh_chn hb h').1;exact ⟨chn_nodup this,chn_used this,.inl rfl⟩
  rw [h'] at h
  simp only [Prod.mk.injEq] at h
  obtain ⟨rfl,rfl,rfl⟩:=h;exact ⟨List.nodup_nil,λ b hb=>(by cases hb),.inr ⟨rfl,rfl,rfl⟩⟩
theorem give_used {X:WkX}{Y:WkY}{T:WkT}{N b c:Nat}(h:WkOk X Y T N)(hb:usedB T b=true):usedB (T.give b) c=(usedB T c&&decide (c≠b)):=by
  unfold WkT.give
  cases ht:T.tk b with
  |true=>
    have hl:=h.dj b ht;rw [if_pos rfl]
    unfold usedB updG
    by_cases hc:c=b
    . subst hc;simp [hl]
    simp [hc]
  |false=>
    rw [if_neg (by decide)]
    unfold usedB updG
    by_cases hc:c=b
    . subst hc;simp [ht]
    simp [hc]
theorem foldl_snoc {α β:Type}(f:β->α->β)(b:β)(l:List α)(i:Nat)(h:i<l.length):(l.take (i+1)).foldl f b=f ((l.take i).foldl f b) l[i]:=by
  rw [List.take_succ_eq_append_getElem h,List.foldl_append];rfl
theorem mem_drop_ne {l:List Nat}{i:Nat}(h:l.Nodup)(hi:i<l.length):∀b∈l.drop (i+1),b≠l[i]:=λ b hb e=>by
  have h1:(l.drop i).Nodup:=h.sublist (List.drop_sublist _ _);rw [List.drop_eq_getElem_cons hi] at h1
  exact (List.nodup_cons.1 h1).1 (e▸hb)
attribute [local irreducible] crk crL crc Sl pt ro Dev imgS recS readS recsF rdW rdO rkT Parts rvl recordsS runsL adrF kcl xcl kys runA runsF layF ovF TxA adZ WkA SlB blkS conB
theorem Zf6 {p r:Prop}(k:r)(h:Kq r->p:=by intro k;refine Zdc ?_;refine tla ?_;exact k.o):p:=h ⟨k⟩
theorem GetB_c {A R:SP}{C:SP->SP}{X:WkX}{Y:WkY}{T:WkT}{s:DevS}(hc:Ct A (WkA X Y s) R C:=by exact cbqz)(hok:WkOk X Y T (s.ls.length*64))(hb:WkB X s)(ho:s.off=false:=by assumption){ref:Nat}(hr1:ref<4294967296:=by omega):
    Fn Tryz.prog 97 #[.pointer (some ⟨X.w,0,none⟩),.int .u32 ((ref:Nat):Int)] A (λ r B=>∃t l e,(whS (usedB T) (conB T s X.ba) ref)=(t,l,e)/\ r= .tuple #[.string (sob t),.int .i64 e]/\ A=B):=by
  refine fn_enterW func97 rfl ntmps97 (by simp) ?_;refine sr ?_;refine Zm ?_;refine Zbj ?_;refine tl_c rfl (o_call bd180 rfl (Rg.whole_c (hc:=hc) (hok:=hok) (hb:=hb) (ref:=ref))) ?_;rintro _ _ ⟨t12,l12,e12,a12,n12,c12,hw12,rfl,hlc12,rfl⟩;refine Zf6 ?_;refine Zm ?_;refine Zbj ?_;refine Zy ?_;exact ⟨_,A,res2 rfl rfl rfl,Dr.sat drqz,t12,l12,e12,hw12,rfl,rfl⟩
theorem DropB_c {A R:SP}{C:SP->SP}{X:WkX}{Y:WkY}{T:WkT}{s:DevS}(hc:Ct A (WkA X Y s) R C:=by exact cbqz)(hok:WkOk X Y T (s.ls.length*64))(hb:WkB X s)(ho:s.off=false:=by assumption){ref:Nat}(hr1:ref<4294967296:=by omega):
    Fn Tryz.prog 100 #[.pointer (some ⟨X.w,0,none⟩),.int .u32 ((ref:Nat):Int)] A (λ r B=>∃t l e Y2,(whS (usedB T) (conB T s X.ba) ref)=(t,l,e)/\ r= .int .i64 e/\ WkOk X Y2 (l.foldl WkT.give T) (s.ls.length*64)/\ B=C (WkA X Y2 s)):=by
  refine fn_enterW func100 rfl ntmps100 (by simp) ?_;obtain ⟨hb1,hb2,hb3⟩:=id hb;obtain ⟨rfl,hC⟩:=hc;refine Zs ?_;refine Zbj ?_;refine tl_c rfl (o_call bd180 rfl (Rg.whole_c (X:=X) (Y:=Y) (T:=T) (s:=s) (hok:=hok) (hb:=hb) (ref:=ref))) ?_;rintro _ _ ⟨t14,l14,e14,a14,n14,c14,hw14,rfl,hlc14,rfl⟩;obtain ⟨hlc1,hlc2⟩:=hlc14;obtain ⟨hnd,hus,_⟩:=wh_list (λ b _=>con_lt hok) hw14;have hln:n14<=16384:=(by rw [←hlc1];have:=nodup_le hnd (λ b hb=>used_n hok (hus b hb));omega);refine Zf6 ?_;refine Zbo ?_;refine Zfl ?_;refine tc_loop (λ kk ρ BB=>∃ (i:Nat) (Yi:WkY),(i<=n14)/\ (WkOk X Yi ((l14.take i).foldl WkT.give T) (s.ls.length*64))/\ (∀b∈l14.drop i,usedB ((l14.take i).foldl WkT.give T) b=true)/\ kk=n14-i/\ ρ 20=(vn i)/\ ρ 0= .pointer (some ⟨X.w,0,none⟩)/\ ρ 7= .int .i64 e14/\ ρ 18= .slice a14 n14 c14/\ ρ 19=(vn n14)/\ Dr BB (R*WkA X Yi s*Sl 1 (.slice a14 n14 c14) n14 (ints (natI l14)))) (m:=n14-(0)) ?_ ?_
  . exact ⟨0,Y,by omega,by rw [List.take_zero];exact hok,by rw [List.take_zero,List.drop_zero];exact hus,rfl,rfl,rfl,rfl,rfl,rfl,drqz⟩
  intro k ρ B hI;obtain ⟨i,Yi,hp0,hp1,hp2,hkk1,hE20,hE0,hE7,hE18,hE19,hBA⟩:=hI;refine tc_pre hBA.sat ?_;clear hBA;refine te 20 hE20 ?_;refine te 0 hE0 ?_;refine te 7 hE7 ?_;refine te 18 hE18 ?_;refine te 19 hE19 ?_;refine Zcg ?_;refine tc_cond rfl (λ h=> ?_) (λ h=> ?_)
  . have hi:i<l14.length:=(by first|omega|(simp at h;omega));obtain ⟨x,hx⟩:∃x,l14[i]=x:=⟨_,rfl⟩;have hxu:=hp2 x (by rw [List.drop_eq_getElem_cons hi,hx];exact List.mem_cons_self ..);refine Zd5 ?_;refine tv (o_ixP1 (a:=a14) (j:=i) underlying34 sz3 rfl rfl oqz (nn_rs (xs:=ints (natI l14)) sq0z (by rw [ints_length,natI_len];omega))) ?_;refine tv (o_ldP (a:=a14) (xs:=ints (natI l14)) p3 rfl sq0z (natI_at hi)) ?_;refine tl_env (d:=23) (v:=(vn x)) (by show Value.int .i64 ((l14[i]:Nat):Int)=_;rw [hx]) ?_;refine Zee ?_;refine tl_c rfl (o_call bd105 rfl (Give13_ok (X:=X) (Y:=Yi) (T:=(l14.take i).foldl WkT.give T) (s:=s) (b:=x) (hok:=hp1) (hb:=hb) (hu:=hxu))) ?_;rintro _ _ ⟨Y26,rfl,hok26,rfl⟩;refine Zha ?_;intro h;refine Zgh ?_;exact ⟨_,by omega,i+1,Y26,by omega,by rw [foldl_snoc _ _ _ _ hi,hx];exact hok26,λ b hb=>by rw [foldl_snoc _ _ _ _ hi,hx,give_used hp1 hxu,hp2 b (by rw [List.drop_eq_getElem_cons hi];exact List.mem_cons_of_mem _ hb)];have:=mem_drop_ne hnd hi b hb;rw [hx] at this;simp [this],rfl,rfl,rfl,rfl,rfl,rfl,drqz⟩
  obtain rfl:i=n14:=by first|omega|(simp at h;omega)
  rw [List.take_of_length_le oqz] at hp1
  refine Zhk ?_;exact ⟨.int .i64 e14,C (WkA X Yi s),res1 rfl rfl,(λ g w h=>by rw [hC];exact Dr.sat (A':=R*WkA X Yi s) drqz g w h),t14,l14,e14,Yi,hw14,rfl,hp1,rfl⟩
end Go.Vl

namespace Go.Vl
open Go Go.Proofs Go.Proofs.Tryz
def nB (bl:Int):Nat:=(1+(IntKind.i64.wrap (bl-1))%60).toNat
def wasL (n:Nat)(live:List Nat):List Bool:=(List.range n).map λ c=>decide (c∈live)
theorem wasL_nil (n:Nat):wasL n []=List.replicate n false:=by
  unfold wasL
  refine List.ext_getElem (by simp) λ i h1 h2=> ?_
  simp
theorem wasL_len (n:Nat)(l:List Nat):(wasL n l).length=n:=by unfold wasL;simp
theorem wasL_at {n k:Nat}{l:List Nat}(h:k<n):(bos (wasL n l))[k]? =some (.bool (decide (k∈l))):=by
  unfold bos wasL
  rw [List.map_map,List.getElem?_map,List.getElem?_range h];rfl
theorem wasL_set {n k:Nat}{l:List Nat}(h:k<n):(bos (wasL n l)).set k (.bool true)=bos (wasL n (l++[k])):=by
  unfold bos wasL
  rw [List.map_map,List.map_map]
  refine List.ext_getElem? λ i=> ?_
  rw [List.getElem?_set]
  simp only [List.length_map,List.length_range,List.getElem?_map]
  by_cases hi:k=i
  . subst hi;rw [if_pos rfl,if_pos h,List.getElem?_range h];simp
  rw [if_neg hi]
  cases hr:(List.range n)[i]? with
  |none=>rfl
  |some c=>
    have:c=i:=by
      have hi':=(List.getElem?_eq_some_iff.1 hr).1;rw [List.length_range] at hi'
      rw [List.getElem?_range hi'] at hr
      exact (Option.some.inj hr).symm
    subst this
    simp [show¬c=k from λ e=>hi e.symm]
def imS (n:Nat)(fs:List (List Nat))(st:List Nat×List Nat)(z:Int):List Nat×List Nat:=
  if (z%(n:Int)).toNat∈st.2 then st
  else (if st.2.length<fs.length then spl st.1 (16512+256*(z%(n:Int)).toNat) ((fs.getD st.2.length []).take 256) else st.1,st.2++[(z%(n:Int)).toNat])
def imF (n:Nat)(fs:List (List Nat))(ls:List Int):List Nat×List Nat:=ls.foldl (imS n fs) (List.replicate (16512+256*n) 0,[])
structure ImOk (n:Nat) (st:List Nat×List Nat):Prop where
  len:st.1.length=16512+256*n
  lt:∀c∈st.2,c<n
  nd:st.2.Nodup
  by_:∀x∈st.1,x<256
  z:st.1.take 16512=List.replicate 16512 0
def RsRows (A:SP)(a:Option Addr)(fs:List (List Nat)):Prop:=∃vs:List Value,vs.length=fs.length/\ Rs A a vs/\∀i (h:i<fs.length),∃b c,vs[i]? =some (.slice b fs[i].length c)/\ fs[i].length<=c/\ fs[i].length<=140737488351232/\ Rs A b (bys fs[i])
attribute [local irreducible] crk crL crc Sl pt ro Dev imgS recS readS recsF rdW rdO rkT Parts rvl recordsS runsL adrF kcl xcl kys runA runsF layF ovF TxA adZ WkA SlB blkS conB imF
end Go.Vl

namespace Go.Vl
open Go Go.Proofs Go.Proofs.Tryz
theorem rdev_cell {A R:SP}{C:SP->SP}{r:Nat}{s:DevS}(hc:Ct A (RDev r s) R C){i:Nat}{v:Value}(h:∀A lv rls av,RdevR A r lv rls av s->Cell A r i v):Cell A r i v:=λ g w hs=>by
  rw [hc.1] at hs
  obtain ⟨hw,lv,rls,av,kvs,h1,h2,hs'⟩:=rdev_iff.1 hs;exact h _ lv rls av (rdevR_of hw h1 hs') g w hs'
theorem cell_of_rs {A:SP}{b i:Nat}{xs:List Value}{v:Value}(h:Rs A (some ⟨b,0,none⟩) xs)(hv:xs[i]? =some v):Cell A b i v:=λ g w hs=>by
  obtain ⟨b',o,e,hc⟩:=h g w hs i v hv
  simp only [Option.some.injEq,Addr.mk.injEq,and_true] at e
  obtain ⟨rfl,rfl⟩:=e
  simpa using hc
theorem rdev_bytes {A R:SP}{C:SP->SP}{r:Nat}{s:DevS}(hc:Ct A (RDev r s) R C):Cell A r 0 ((vn (s.ls.length*64))):=rdev_cell hc λ A lv rls av hR=>cell_of_rs hR.d rfl
theorem rdev_gone {A R:SP}{C:SP->SP}{r:Nat}{s:DevS}(hc:Ct A (RDev r s) R C):Cell A r 5 (.bool s.off):=rdev_cell hc λ A lv rls av hR=>cell_of_rs hR.d rfl
attribute [local irreducible] crk crL crc Sl pt ro Dev imgS recS readS recsF rdW rdO rkT Parts rvl recordsS runsL adrF kcl xcl kys runA runsF layF ovF TxA adZ WkA SlB blkS conB imF RDev
theorem rNew12_c {A:SP}{r lg:Nat}:
    Fn Tryz.prog 91 #[pz r,pz lg] A (λ v B=>∃q,v= .tuple #[pz q,.int .i64 0]/\ B=A*pt q (cl [pz r,pz lg,.pointer none] 269)):=by
  refine fn_enterW func91 rfl ntmps91 (by simp) ?_;refine Zdh ?_;refine tv (o_eqp underlying47 rfl rfl) ?_;refine tlm ?_;refine tl_bool (d:=8) rfl dbq (sbq ?_);intro h;refine tlm ?_;refine tv (o_eqp underlying172 rfl rfl) ?_;refine Zcc ?_;intro h;refine Zeb ?_;refine tv (o_bS (l:=[_,_,_]) (pv_cons wqz (pv_cons wqz pv_nil)) underlying269 z269 (pl269 underlying269) rfl) ?_;refine tl_x rfl (o_box rfl rfl) ?_;rintro _ _ ⟨b15,rfl,rfl⟩;refine Zy ?_;exact ⟨_,_,res2 rfl rfl rfl,λ _ _ h=>h,b15,rfl,rfl⟩
theorem rSize12_c {A R:SP}{C:SP->SP}{r:Nat}{s:DevS}(hc:Ct A (RDev r s) R C:=by exact cbqz){q lg:Nat}{o:Value}(hq:Has A q (cl [pz r,pz lg,o] 269):=by exact hbqz):
    Fn Tryz.prog 174 #[pz q] A (λ v B=>v=(vn (s.ls.length*64))/\ A=B):=by
  refine fn_enterW func174 rfl ntmps174 (by simp) ?_;refine Zh1 ?_;refine tv (o_fieldAddr (o:=0) underlying269 rfl rfl sz47 rfl) ?_;refine tv (o_load p47 rfl hq rfl) ?_;refine Zci ?_;refine tv (o_loadC p3 rfl (rdev_bytes hc)) ?_;refine Zbd ?_;exact ⟨.int .i64 ((s.ls.length*64:Nat):Int),_,res1 rfl rfl,Dr.sat drqz,rfl,rfl⟩
theorem rNew13_c {A R:SP}{C:SP->SP}{r:Nat}{s:DevS}(hc:Ct A (RDev r s) R C:=by exact cbqz){q lg:Nat}{o:Value}(hq:Has A q (cl [pz r,pz lg,o] 269):=by exact hbqz){at_ n:Nat}(h64:at_%64=0)(h1:128<=at_)(h2:at_+256*n<=s.ls.length*64)(htop:s.ls.length*64<=4194304):
    Fn Tryz.prog 92 #[pz q,vn at_,vn n] A (λ v B=>∃l hd,v= .tuple #[pz hd,.int .i64 0]/\ B=A*Sl 1 (.slice (some ⟨l,0,none⟩) n n) n (bos (wasL n []))*pt hd (cl [pz q,vn at_,vn n,.slice (some ⟨l,0,none⟩) n n,.pointer none] 232)):=by
  refine fn_enterW func92 rfl ntmps92 (by simp) ?_;refine Zdh ?_;refine tv (o_eqp underlying175 rfl rfl) ?_;refine Zn ?_;intro h;refine Zc4 ?_;refine tv (o_remI rfl rfl oqz) ?_;refine Zdf ?_;refine tl_bool (d:=13) rfl dbq (sbq ?_);intro h;refine Zhl ?_;refine tl_bool (d:=17) rfl dbq (sbq ?_);intro h;refine Zhl ?_;refine tl_bool (d:=21) rfl dbq (sbq ?_);intro h;refine Zv ?_;refine tl_c rfl (o_call bd174 rfl (rSize12_c (hc:=hc) (hq:=hq))) ?_;rintro _ _ ⟨rfl,rfl⟩;refine Zdy ?_;refine tl_bool (d:=27) rfl dbq (sbq ?_);intro h;refine Zv ?_;refine tl_c rfl (o_call bd174 rfl (rSize12_c (hc:=hc) (hq:=hq))) ?_;refine Zda ?_;refine tv (o_subI rfl rfl oqz) ?_;refine tv (o_quoI rfl rfl oqz) ?_;refine tv (o_gtr rfl rfl) ?_;refine Zcc ?_;intro h;refine Zb9 ?_;refine Zfb ?_;refine tl_x rfl (o_makeSlice (len:=n) (cap:=n) underlying228 sz4 by4 z4 rfl rfl rfl oqz oqz oqz) ?_;rintro _ _ ⟨b40,rfl,rfl⟩;refine tl_pre (λ _ _ h=>sl_new (k:=1) (n:=n) (cap:=n) (xs:=bos (wasL n [])) h oqz (by simp) (by rw [Nat.mul_one,List.take_of_length_le (by simp),wasL_nil];unfold bos;rw [List.map_replicate])) ?_;refine tv (o_bS (l:=[_,_,_,_,_]) (pv_cons wqz (pv_cons wqz (pv_cons wqz (pv_cons wqz pv_nil)))) underlying232 z232 (pl232 underlying232) rfl) ?_;refine tl_x rfl (o_box rfl rfl) ?_;rintro _ _ ⟨b42,rfl,rfl⟩;refine Zy ?_;exact ⟨_,_,res2 rfl rfl rfl,λ _ _ h=>h,b40,b42,rfl,rfl⟩
theorem rOpenH_c {A:SP}{hd q at_ n:Nat}{l:Value}(hh:Has A hd (cl [pz q,vn at_,vn n,l,.pointer none] 232):=by exact hbqz):
    Fn Tryz.prog 175 #[pz hd] A (λ v B=>v= .bool false/\ A=B):=by
  refine fn_enterW func175 rfl ntmps175 (by simp) ?_;refine Zh1 ?_;refine tv (o_fieldAddr (o:=4) underlying232 rfl rfl sz49 rfl) ?_;refine tv (o_load p49 rfl hh rfl) ?_;refine tv (o_nep underlying49 rfl rfl) ?_;refine tlm ?_;refine tl_bool (d:=8) rfl dbq (sbq ?_);intro h;refine Zbk ?_;refine Zbk ?_;refine Zfv ?_;exact ⟨.bool false,_,res1 rfl rfl,Dr.sat drqz,rfl,rfl⟩
theorem rLoad13_c {A R:SP}{hd q at_ n m c:Nat}{lv:Value}{a:Option Addr}{zs:List Nat}(hA:A=R*pt hd (cl [pz q,vn at_,vn n,lv,.pointer none] 232))(hr:Rs R a (ints (natI zs)))(hm:zs.length=m)(hnd:zs.Nodup)(hz:∀x∈zs,x<n)(hn:n<=4194304)(hml:m<=4194304):
    Fn Tryz.prog 93 #[pz hd,.slice a m c] A (λ v B=>∃l,v= .int .i64 0/\ B=R*pt hd (cl [pz q,vn at_,vn n,.slice (some ⟨l,0,none⟩) n n,.pointer none] 232)*Sl 1 (.slice (some ⟨l,0,none⟩) n n) n (bos (wasL n zs))):=by
  refine fn_enterW func93 rfl ntmps93 (by simp) ?_;subst hA;refine Zdd ?_;refine tl_c rfl (o_call bd175 rfl (rOpenH_c)) ?_;rintro _ _ ⟨rfl,rfl⟩;refine Zn ?_;intro h;refine Ze6 ?_;refine tv (o_fieldAddr (o:=2) underlying232 rfl rfl sz3 rfl) ?_;refine tv (o_load p3 rfl hsqz rfl) ?_;refine tl_x rfl (o_makeSlice (len:=n) (cap:=n) underlying228 sz4 by4 z4 rfl rfl rfl oqz oqz oqz) ?_;rintro _ _ ⟨b13,rfl,rfl⟩;refine tl_pre (λ _ _ h=>sl_new (k:=1) (n:=n) (cap:=n) (xs:=bos (wasL n [])) h oqz (by simp) (by rw [Nat.mul_one,List.take_of_length_le (by simp),wasL_nil];unfold bos;rw [List.map_replicate])) ?_;refine Zeh ?_;refine Zfe ?_;refine tc_loop (λ kk ρ BB=>∃ (i:Nat),(i<=m)/\ kk=m-i/\ ρ 6=(vn i)/\ ρ 0=(pz hd)/\ ρ 1= .slice a m c/\ ρ 5= .slice (some ⟨b13,0,none⟩) n n/\ Dr BB (R*pt hd (cl [pz q,vn at_,vn n,lv,.pointer none] 232)*Sl 1 (.slice (some ⟨b13,0,none⟩) n n) n (bos (wasL n (zs.take i))))) (m:=m-(0)) ?_ ?_
  . exact ⟨0,by omega,rfl,rfl,rfl,rfl,rfl,(by rw [List.take_zero];repeat (first|with_reducible exact dr_refl|apply dr_keep|apply dr_drop))⟩
  intro k ρ B hI;obtain ⟨i,hp0,hkk1,hE6,hE0,hE1,hE5,hBA⟩:=hI;refine tc_pre hBA.sat ?_;clear hBA;refine te 6 hE6 ?_;refine te 0 hE0 ?_;refine te 1 hE1 ?_;refine te 5 hE5 ?_;refine Zl ?_;refine tlm ?_;refine tv (o_len underlying34 rfl) ?_;refine Zu ?_;refine tc_cond rfl (λ h=> ?_) (λ h=> ?_)
  . have hi:i<zs.length:=(by first|omega|(simp at h;omega));obtain ⟨x,hx1⟩:∃x,zs[i]=x:=⟨_,rfl⟩;have hxn:x<n:=hx1▸hz _ (List.getElem_mem hi)
    have hxo:x∉zs.take i:=(by have:=nodup_at hnd hi;rw [hx1] at this;exact of_decide_eq_false this);have htk:zs.take (i+1)=zs.take i++[x]:=(by rw [List.take_succ_eq_append_getElem hi,hx1]);refine Zbp ?_;refine Zb1 ?_;refine tc_regq mo kqz ?_;refine Zd2 ?_;refine ql_v rfl (o_ixP1 (a:=a) (j:=i) underlying34 sz3 rfl rfl oqz (nn_rs (xs:=ints (natI zs)) (by repeat (first|exact hr|apply Rs.left)) (by rw [ints_length,natI_len];omega))) ?_;refine ql_v rfl (o_ldP (a:=a) (xs:=ints (natI zs)) p3 rfl (by repeat (first|exact hr|apply Rs.left)) (natI_at hi)) ?_;refine ql_env (d:=23) (v:=(vn x)) (by show Value.int .i64 ((zs[i]:Nat):Int)=_;rw [hx1]) ?_;refine Zhv ?_;refine ql_bool (d:=25) rfl dbq (sbq ?_);intro h;refine Zd2 ?_;refine ql_v rfl (o_ixP1 (a:=a) (j:=i) underlying34 sz3 rfl rfl oqz (nn_rs (xs:=ints (natI zs)) (by repeat (first|exact hr|apply Rs.left)) (by rw [ints_length,natI_len];omega))) ?_;refine ql_v rfl (o_ldP (a:=a) (xs:=ints (natI zs)) p3 rfl (by repeat (first|exact hr|apply Rs.left)) (natI_at hi)) ?_;refine ql_env (d:=29) (v:=(vn x)) (by show Value.int .i64 ((zs[i]:Nat):Int)=_;rw [hx1]) ?_;refine Zby ?_;refine ql_v rfl (o_fieldAddr (o:=2) underlying232 rfl rfl sz3 rfl) ?_;refine ql_v rfl (o_load p3 rfl hsqz rfl) ?_;refine ql_v rfl (o_geq rfl rfl) ?_;refine Zft ?_;refine ql_bool (d:=36) rfl dbq (sbq ?_);intro h;refine Zd2 ?_;refine ql_v rfl (o_move wqz) ?_;refine ql_v rfl (o_ixP1 (a:=a) (j:=i) underlying34 sz3 rfl rfl oqz (nn_rs (xs:=ints (natI zs)) (by repeat (first|exact hr|apply Rs.left)) (by rw [ints_length,natI_len];omega))) ?_;refine ql_v rfl (o_ldP (a:=a) (xs:=ints (natI zs)) p3 rfl (by repeat (first|exact hr|apply Rs.left)) (natI_at hi)) ?_;refine ql_env (d:=41) (v:=(vn x)) (by show Value.int .i64 ((zs[i]:Nat):Int)=_;rw [hx1]) ?_;refine ql_v rfl (o_ixP1 (j:=x) underlying228 sz4 rfl rfl oqz (nn_rs (xs:=bos (wasL n (zs.take i))) sq0z (by rw [bos_length,wasL_len];omega))) ?_;refine ql_v rfl (o_ldP (xs:=bos (wasL n (zs.take i))) p4 rfl sq0z (wasL_at hxn)) ?_;refine ql_env (d:=43) (v:= .bool false) (congrArg Value.bool (decide_eq_false hxo)) ?_;refine ql_v rfl (o_pick_f rfl wqz) ?_;refine Zd6 ?_;refine tc_cond rfl dbq (sbq ?_);intro h;refine Ze ?_;refine Zb5 ?_;refine tlm ?_;refine tv (o_ixP1 (a:=a) (j:=i) underlying34 sz3 rfl rfl oqz (nn_rs (xs:=ints (natI zs)) (by repeat (first|exact hr|apply Rs.left)) (by rw [ints_length,natI_len];omega))) ?_;refine tv (o_ldP (a:=a) (xs:=ints (natI zs)) p3 rfl (by repeat (first|exact hr|apply Rs.left)) (natI_at hi)) ?_;refine tl_env (d:=49) (v:=(vn x)) (by show Value.int .i64 ((zs[i]:Nat):Int)=_;rw [hx1]) ?_;refine tv (o_ixP1 (j:=x) underlying228 sz4 rfl rfl oqz (nn_rs (xs:=bos (wasL n (zs.take i))) sq0z (by rw [bos_length,wasL_len];omega))) ?_;refine tl_u rfl (o_stP (ys:=bos (wasL n (zs.take (i+1)))) sz4 rfl rfl rfl ctqz oqz (by rw [htk];exact wasL_set hxn)) ?_;refine tl_nil ?_;refine Zr ?_;refine Zh5 ?_;exact ⟨_,by omega,i+1,by omega,rfl,rfl,rfl,rfl,rfl,drqz⟩
  obtain rfl:i=m:=by first|omega|(simp at h;omega)
  rw [List.take_of_length_le oqz]
  refine Zk ?_;refine Zbj ?_;refine tv (o_nilCheck rfl) ?_;refine tv (o_fieldAddr (o:=3) underlying232 rfl rfl sz228 rfl) ?_;refine tl_u rfl (o_stU (l':=[pz q,vn at_,vn n,.slice (some ⟨b13,0,none⟩) n n,.pointer none]) rfl upqz sz228 rfl rfl (by show 3<5;decide) rfl) ?_;refine nq ?_;refine Zcv ?_;exact ⟨.int .i64 0,_,res1 rfl rfl,Dr.sat drqz,b13,rfl,rfl⟩
theorem rState12_c {A R:SP}{C:SP->SP}{r:Nat}{s:DevS}(hc:Ct A (RDev r s) R C:=by exact cbqz){q lg la lz:Nat}{o:Value}(hq:Has A q (cl [pz r,pz lg,o] 269):=by exact hbqz)(hl:Has R lg (cl [pz r,vn la,vn lz] 267):=by exact hbqz)(hlw:LogW (s.ls.length*64) la lz)(hre:recordsS la lz s=([],0)):
    Fn Tryz.prog 294 #[pz q] A (λ v B=>v= .int .i64 0/\ A=B):=by
  refine fn_enterW func294 rfl ntmps294 (by simp) ?_;refine Zh1 ?_;refine tv (o_fieldAddr (o:=1) underlying269 rfl rfl sz172 rfl) ?_;refine tv (o_load p172 rfl hq rfl) ?_;refine tl_c rfl (o_call bd322 rfl (rRecords_c (hc:=hc) (hl:=hl) (hlw:=hlw))) ?_;rintro _ _ ⟨a10,c10,vs10,rfl,hc10,hvs10,rfl⟩;rw [hre] at hc10 hvs10
  rw [hre]
  refine Zf2 ?_;intro h;refine Zc4 ?_;refine tv (o_len underlying259 rfl) ?_;refine tv (o_gtr rfl rfl) ?_;refine Zn ?_;intro h;refine Ze ?_;refine Zcv ?_;exact ⟨.int .i64 0,_,res1 rfl rfl,(λ g w h=>by rw [hc.1];rw [hc.2] at h;exact Dr.sat (A':=R*RDev r s) drqz g w h),rfl,rfl⟩
theorem pt_bos {R:SP}{b n:Nat}{E:TypeId}{g:Gh}{w:World}(h:sat g w (R*pt b (cl (List.replicate n (.bool false)) E))):sat g w (R*Sl 1 (.slice (some ⟨b,0,none⟩) n n) n (bos (wasL n []))):=
  sl_new (k:=1) h (Nat.le_refl _) (by simp) (by rw [Nat.mul_one,List.take_of_length_le (by simp),wasL_nil];unfold bos;rw [List.map_replicate])
theorem Zib {p r:Prop}(k:r)(h:Kq r->p:=by intro k;refine tv (o_fieldAddr (o:=2) underlying269 rfl rfl sz227 rfl) ?_;refine tv (o_load p227 rfl hsqz rfl) ?_;exact k.o):p:=h ⟨k⟩
theorem rBegin12_c {A R:SP}{q r lg la lz:Nat}{s:DevS}(hA:A=R*pt q (cl [pz r,pz lg,.pointer none] 269)*pt lg (cl [pz r,vn la,vn lz] 267)*RDev r s)(hlw:LogW (s.ls.length*64) la lz)(hre:recordsS la lz s=([],0))(ho:s.off=false:=by assumption):
    Fn Tryz.prog 251 #[pz q] A (λ v B=>∃t,v= .tuple #[pz t,.int .i64 0]/\ B=R*pt q (cl [pz r,pz lg,pz t] 269)*pt lg (cl [pz r,vn la,vn lz] 267)*RDev r s*pt t (cl [pz q,.slice none 0 0,.bool false] 328)):=by
  refine fn_enterW func251 rfl ntmps251 (by simp) ?_;subst hA;refine Zdh ?_;refine tv (o_nilCheck rfl) ?_;refine tv (o_fieldAddr (o:=0) underlying269 rfl rfl sz47 rfl) ?_;refine tv (o_load p47 rfl hsqz rfl) ?_;refine Zfp ?_;refine tv (o_loadC p4 rfl (rdev_gone ctqz)) ?_;refine tl_env (d:=11) (v:= .bool false) (congrArg Value.bool ho) ?_;refine Zn ?_;intro h;refine Zg3 ?_;refine Zib ?_;refine tv (o_nep underlying227 rfl rfl) ?_;refine Zn ?_;intro h;refine Zb9 ?_;refine tl_c rfl (o_call bd294 rfl (rState12_c (s:=s) (la:=la) (lz:=lz) (r:=r) (lg:=lg) (hlw:=hlw) (hre:=hre))) ?_;rintro _ _ ⟨rfl,rfl⟩;refine Zds ?_;refine Zz ?_;intro h;refine Zeb ?_;refine tv (o_bS (l:=[_,_,_]) (pv_cons wqz pv_nil) underlying328 z328 (pl328 underlying328) rfl) ?_;refine tl_x rfl (o_box rfl rfl) ?_;rintro _ _ ⟨b25,rfl,rfl⟩;refine tv (o_nilCheck rfl) ?_;refine tv (o_fieldAddr (o:=2) underlying269 rfl rfl sz227 rfl) ?_;refine tl_u rfl (o_stU (l':=[pz r,pz lg,pz b25]) rfl upqz sz227 rfl rfl (by show 2<3;decide) rfl) ?_;refine nq ?_;refine Z1 ?_;refine Zib ?_;refine Zy ?_;exact ⟨_,_,res2 rfl rfl rfl,λ _ _ h=>h,b25,rfl,rfl⟩
theorem Zbc {p r:Prop}(k:r)(h:Kq r->p:=by intro k;refine ⟨by repeat (first|with_reducible exact dr_refl|apply dr_keep|apply dr_drop), ?_⟩;refine tm 13 rfl kqz rfl (o_bS (l:=[_,_,_,_,_]) (pv_cons wqz (pv_cons wqz (pv_cons wqz (pv_cons wqz pv_nil)))) underlying230 z230 (pl230 underlying230) rfl) ?_;exact k.o):p:=h ⟨k⟩
theorem Zd3 {p r:Prop}(k:r)(h:Kq r->p:=by intro k;refine th_one (i:=14) kqz ?_;refine oh_x rfl rfl rfl (o_box rfl rfl) ?_;exact k.o):p:=h ⟨k⟩
theorem Zcj {p r:Prop}(k:r)(h:Kq r->p:=by intro k;refine tm 16 rfl kqz rfl (o_fieldAddr (o:=4) underlying232 rfl rfl sz49 rfl) ?_;refine th_one (i:=17) kqz ?_;exact k.o):p:=h ⟨k⟩
theorem Zcp {p r:Prop}(k:r)(h:Kq r->p:=by intro k;refine tv (o_fieldAddr (o:=4) underlying232 rfl rfl sz49 rfl) ?_;refine tv (o_load p49 rfl hsqz rfl) ?_;exact k.o):p:=h ⟨k⟩
theorem Zhn {p r:Prop}(k:r)(h:Kq r->p:=by intro k;refine ⟨by repeat (first|with_reducible exact dr_refl|apply dr_keep|apply dr_drop), ?_⟩;refine th_one (i:=12) kqz ?_;exact k.o):p:=h ⟨k⟩
theorem Zes {p r:Prop}(k:r)(h:Kq r->p:=by intro k;refine ⟨by repeat (first|with_reducible exact dr_refl|apply dr_keep|apply dr_drop), ?_⟩;refine th_one (i:=7) kqz ?_;exact k.o):p:=h ⟨k⟩
theorem rBegin13_c {A R:SP}{hd n at_ q r lg la lz:Nat}{l:Value}{s:DevS}(hA:A=R*pt hd (cl [pz q,vn at_,vn n,l,.pointer none] 232)*pt q (cl [pz r,pz lg,.pointer none] 269)*pt lg (cl [pz r,vn la,vn lz] 267)*RDev r s)(hlw:LogW (s.ls.length*64) la lz)(hre:recordsS la lz s=([],0))(hn:n<=4194304)(ho:s.off=false:=by assumption):
    Fn Tryz.prog 177 #[pz hd] A (λ v B=>∃t k1 k2 w,v= .tuple #[pz w,.int .i64 0]/\ B=R*pt hd (cl [pz q,vn at_,vn n,l,pz w] 232)*pt q (cl [pz r,pz lg,pz t] 269)*pt lg (cl [pz r,vn la,vn lz] 267)*RDev r s*pt t (cl [pz q,.slice none 0 0,.bool false] 328)*pt w (cl [pz hd,pz t,.slice (some ⟨k1,0,none⟩) n n,.slice (some ⟨k2,0,none⟩) n n,.bool false] 230)*Sl 1 (.slice (some ⟨k1,0,none⟩) n n) n (bos (wasL n []))*Sl 1 (.slice (some ⟨k2,0,none⟩) n n) n (bos (wasL n []))):=by
  refine fn_enterW func177 rfl ntmps177 (by simp) ?_;subst hA;refine sr ?_;refine Zm ?_;refine Z1 ?_;refine tv (o_fieldAddr (o:=0) underlying232 rfl rfl sz175 rfl) ?_;refine tv (o_load p175 rfl hsqz rfl) ?_;refine tl_c rfl (o_call bd251 rfl (rBegin12_c (R:=R*pt hd (cl [pz q,vn at_,vn n,l,.pointer none] 232)) (q:=q) (r:=r) (lg:=lg) (la:=la) (lz:=lz) (s:=s) (hA:=by ac_rfl) (hlw:=hlw) (hre:=hre))) ?_;rintro _ _ ⟨t11,rfl,rfl⟩;refine Zf2 ?_;intro h;refine Zdv ?_;refine tc_regh (S:=R) mo drqz ?_
  show TH _ _ _ _ _ 18 (Array.replicate 18 false) _ _
  refine Zc8 ?_;refine Zc9 ?_;refine tm 4 rfl kqz rfl (o_nilCheck rfl) ?_;refine tm 5 rfl kqz rfl (o_fieldAddr (o:=2) underlying232 rfl rfl sz3 rfl) ?_;refine tm 8 rfl kqz rfl (o_move wqz) ?_;refine tm 9 rfl kqz rfl (o_nilCheck rfl) ?_;refine tm 10 rfl kqz rfl (o_fieldAddr (o:=2) underlying232 rfl rfl sz3 rfl) ?_;refine th_two (i:=6) (j:=11) kqz ?_ ?_
  . skip
    refine oh_v rfl rfl rfl (o_load p3 rfl hsqz rfl) ?_;refine th_two (i:=7) (j:=11) kqz ?_ ?_
    . skip
      refine oh_x rfl rfl rfl (o_makeSlice (len:=n) (cap:=n) underlying228 sz4 by4 z4 rfl rfl rfl oqz oqz oqz) ?_;rintro _ _ ⟨b24,rfl,rfl⟩;refine Zeq ?_;refine oh_v rfl rfl rfl (o_load p3 rfl hsqz rfl) ?_;refine th_one (i:=12) kqz ?_;refine oh_x rfl rfl rfl (o_makeSlice (len:=n) (cap:=n) underlying228 sz4 by4 z4 rfl rfl rfl oqz oqz oqz) ?_;rintro _ _ ⟨b29,rfl,rfl⟩;refine Zbc ?_;refine Zd3 ?_;rintro _ _ ⟨b31,rfl,rfl⟩;refine Zbf ?_;refine Zcj ?_;refine oh_u rfl rfl rfl (o_stU (l':=[pz q,vn at_,vn n,l,pz b31]) rfl upqz sz49 rfl rfl (by show 4<5;decide) rfl) drqz ?_;refine Zbs ?_;refine Z1 ?_;refine Zcp ?_;refine Zy ?_;exact ⟨_,_,res2 rfl rfl rfl,(λ g w h=>pt_bos (b:=b29) ((pt_bos (b:=b24) (h.perm (show _=R*pt hd (cl [pz q,vn at_,vn n,l,pz b31] 232)*pt q (cl [pz r,pz lg,pz t11] 269)*pt lg (cl [pz r,vn la,vn lz] 267)*RDev r s*pt t11 (cl [pz q,.slice none 0 0,.bool false] 328)*pt b31 (cl [pz hd,pz t11,.slice (some ⟨b24,0,none⟩) n n,.slice (some ⟨b29,0,none⟩) n n,.bool false] 230)*pt b29 (cl (List.replicate n (.bool false)) 4)*pt b24 (cl (List.replicate n (.bool false)) 4) by ac_rfl))).perm (show _=R*pt hd (cl [pz q,vn at_,vn n,l,pz b31] 232)*pt q (cl [pz r,pz lg,pz t11] 269)*pt lg (cl [pz r,vn la,vn lz] 267)*RDev r s*pt t11 (cl [pz q,.slice none 0 0,.bool false] 328)*pt b31 (cl [pz hd,pz t11,.slice (some ⟨b24,0,none⟩) n n,.slice (some ⟨b29,0,none⟩) n n,.bool false] 230)*Sl 1 (.slice (some ⟨b24,0,none⟩) n n) n (bos (wasL n []))*pt b29 (cl (List.replicate n (.bool false)) 4) by ac_rfl))),t11,b24,b29,b31,rfl,rfl⟩
    . skip
      refine oh_v rfl rfl rfl (o_load p3 rfl hsqz rfl) ?_;refine th_two (i:=7) (j:=12) kqz ?_ ?_
      . skip
        refine oh_x rfl rfl rfl (o_makeSlice (len:=n) (cap:=n) underlying228 sz4 by4 z4 rfl rfl rfl oqz oqz oqz) ?_;rintro _ _ ⟨b24,rfl,rfl⟩;refine Zhn ?_;refine oh_x rfl rfl rfl (o_makeSlice (len:=n) (cap:=n) underlying228 sz4 by4 z4 rfl rfl rfl oqz oqz oqz) ?_;rintro _ _ ⟨b29,rfl,rfl⟩;refine Zbc ?_;refine Zd3 ?_;rintro _ _ ⟨b31,rfl,rfl⟩;refine Zbf ?_;refine Zcj ?_;refine oh_u rfl rfl rfl (o_stU (l':=[pz q,vn at_,vn n,l,pz b31]) rfl upqz sz49 rfl rfl (by show 4<5;decide) rfl) drqz ?_;refine Zbs ?_;refine Z1 ?_;refine Zcp ?_;refine Zy ?_;exact ⟨_,_,res2 rfl rfl rfl,(λ g w h=>pt_bos (b:=b29) ((pt_bos (b:=b24) (h.perm (show _=R*pt hd (cl [pz q,vn at_,vn n,l,pz b31] 232)*pt q (cl [pz r,pz lg,pz t11] 269)*pt lg (cl [pz r,vn la,vn lz] 267)*RDev r s*pt t11 (cl [pz q,.slice none 0 0,.bool false] 328)*pt b31 (cl [pz hd,pz t11,.slice (some ⟨b24,0,none⟩) n n,.slice (some ⟨b29,0,none⟩) n n,.bool false] 230)*pt b29 (cl (List.replicate n (.bool false)) 4)*pt b24 (cl (List.replicate n (.bool false)) 4) by ac_rfl))).perm (show _=R*pt hd (cl [pz q,vn at_,vn n,l,pz b31] 232)*pt q (cl [pz r,pz lg,pz t11] 269)*pt lg (cl [pz r,vn la,vn lz] 267)*RDev r s*pt t11 (cl [pz q,.slice none 0 0,.bool false] 328)*pt b31 (cl [pz hd,pz t11,.slice (some ⟨b24,0,none⟩) n n,.slice (some ⟨b29,0,none⟩) n n,.bool false] 230)*Sl 1 (.slice (some ⟨b24,0,none⟩) n n) n (bos (wasL n []))*pt b29 (cl (List.replicate n (.bool false)) 4) by ac_rfl))),t11,b24,b29,b31,rfl,rfl⟩
      . skip
        refine oh_x rfl rfl rfl (o_makeSlice (len:=n) (cap:=n) underlying228 sz4 by4 z4 rfl rfl rfl oqz oqz oqz) ?_;rintro _ _ ⟨b29,rfl,rfl⟩;refine Zes ?_;refine oh_x rfl rfl rfl (o_makeSlice (len:=n) (cap:=n) underlying228 sz4 by4 z4 rfl rfl rfl oqz oqz oqz) ?_;rintro _ _ ⟨b24,rfl,rfl⟩;refine Zbc ?_;refine Zd3 ?_;rintro _ _ ⟨b31,rfl,rfl⟩;refine Zbf ?_;refine Zcj ?_;refine oh_u rfl rfl rfl (o_stU (l':=[pz q,vn at_,vn n,l,pz b31]) rfl upqz sz49 rfl rfl (by show 4<5;decide) rfl) drqz ?_;refine Zbs ?_;refine Z1 ?_;refine Zcp ?_;refine Zy ?_;exact ⟨_,_,res2 rfl rfl rfl,(λ g w h=>pt_bos (b:=b29) ((pt_bos (b:=b24) (h.perm (show _=R*pt hd (cl [pz q,vn at_,vn n,l,pz b31] 232)*pt q (cl [pz r,pz lg,pz t11] 269)*pt lg (cl [pz r,vn la,vn lz] 267)*RDev r s*pt t11 (cl [pz q,.slice none 0 0,.bool false] 328)*pt b31 (cl [pz hd,pz t11,.slice (some ⟨b24,0,none⟩) n n,.slice (some ⟨b29,0,none⟩) n n,.bool false] 230)*pt b29 (cl (List.replicate n (.bool false)) 4)*pt b24 (cl (List.replicate n (.bool false)) 4) by ac_rfl))).perm (show _=R*pt hd (cl [pz q,vn at_,vn n,l,pz b31] 232)*pt q (cl [pz r,pz lg,pz t11] 269)*pt lg (cl [pz r,vn la,vn lz] 267)*RDev r s*pt t11 (cl [pz q,.slice none 0 0,.bool false] 328)*pt b31 (cl [pz hd,pz t11,.slice (some ⟨b24,0,none⟩) n n,.slice (some ⟨b29,0,none⟩) n n,.bool false] 230)*Sl 1 (.slice (some ⟨b24,0,none⟩) n n) n (bos (wasL n []))*pt b29 (cl (List.replicate n (.bool false)) 4) by ac_rfl))),t11,b24,b29,b31,rfl,rfl⟩
  . skip
    refine oh_v rfl rfl rfl (o_load p3 rfl hsqz rfl) ?_;refine th_two (i:=6) (j:=12) kqz ?_ ?_
    . skip
      refine oh_v rfl rfl rfl (o_load p3 rfl hsqz rfl) ?_;refine th_two (i:=7) (j:=12) kqz ?_ ?_
      . skip
        refine oh_x rfl rfl rfl (o_makeSlice (len:=n) (cap:=n) underlying228 sz4 by4 z4 rfl rfl rfl oqz oqz oqz) ?_;rintro _ _ ⟨b24,rfl,rfl⟩;refine Zhn ?_;refine oh_x rfl rfl rfl (o_makeSlice (len:=n) (cap:=n) underlying228 sz4 by4 z4 rfl rfl rfl oqz oqz oqz) ?_;rintro _ _ ⟨b29,rfl,rfl⟩;refine Zbc ?_;refine Zd3 ?_;rintro _ _ ⟨b31,rfl,rfl⟩;refine Zbf ?_;refine Zcj ?_;refine oh_u rfl rfl rfl (o_stU (l':=[pz q,vn at_,vn n,l,pz b31]) rfl upqz sz49 rfl rfl (by show 4<5;decide) rfl) drqz ?_;refine Zbs ?_;refine Z1 ?_;refine Zcp ?_;refine Zy ?_;exact ⟨_,_,res2 rfl rfl rfl,(λ g w h=>pt_bos (b:=b29) ((pt_bos (b:=b24) (h.perm (show _=R*pt hd (cl [pz q,vn at_,vn n,l,pz b31] 232)*pt q (cl [pz r,pz lg,pz t11] 269)*pt lg (cl [pz r,vn la,vn lz] 267)*RDev r s*pt t11 (cl [pz q,.slice none 0 0,.bool false] 328)*pt b31 (cl [pz hd,pz t11,.slice (some ⟨b24,0,none⟩) n n,.slice (some ⟨b29,0,none⟩) n n,.bool false] 230)*pt b29 (cl (List.replicate n (.bool false)) 4)*pt b24 (cl (List.replicate n (.bool false)) 4) by ac_rfl))).perm (show _=R*pt hd (cl [pz q,vn at_,vn n,l,pz b31] 232)*pt q (cl [pz r,pz lg,pz t11] 269)*pt lg (cl [pz r,vn la,vn lz] 267)*RDev r s*pt t11 (cl [pz q,.slice none 0 0,.bool false] 328)*pt b31 (cl [pz hd,pz t11,.slice (some ⟨b24,0,none⟩) n n,.slice (some ⟨b29,0,none⟩) n n,.bool false] 230)*Sl 1 (.slice (some ⟨b24,0,none⟩) n n) n (bos (wasL n []))*pt b29 (cl (List.replicate n (.bool false)) 4) by ac_rfl))),t11,b24,b29,b31,rfl,rfl⟩
      . skip
        refine oh_x rfl rfl rfl (o_makeSlice (len:=n) (cap:=n) underlying228 sz4 by4 z4 rfl rfl rfl oqz oqz oqz) ?_;rintro _ _ ⟨b29,rfl,rfl⟩;refine Zes ?_;refine oh_x rfl rfl rfl (o_makeSlice (len:=n) (cap:=n) underlying228 sz4 by4 z4 rfl rfl rfl oqz oqz oqz) ?_;rintro _ _ ⟨b24,rfl,rfl⟩;refine Zbc ?_;refine Zd3 ?_;rintro _ _ ⟨b31,rfl,rfl⟩;refine Zbf ?_;refine Zcj ?_;refine oh_u rfl rfl rfl (o_stU (l':=[pz q,vn at_,vn n,l,pz b31]) rfl upqz sz49 rfl rfl (by show 4<5;decide) rfl) drqz ?_;refine Zbs ?_;refine Z1 ?_;refine Zcp ?_;refine Zy ?_;exact ⟨_,_,res2 rfl rfl rfl,(λ g w h=>pt_bos (b:=b29) ((pt_bos (b:=b24) (h.perm (show _=R*pt hd (cl [pz q,vn at_,vn n,l,pz b31] 232)*pt q (cl [pz r,pz lg,pz t11] 269)*pt lg (cl [pz r,vn la,vn lz] 267)*RDev r s*pt t11 (cl [pz q,.slice none 0 0,.bool false] 328)*pt b31 (cl [pz hd,pz t11,.slice (some ⟨b24,0,none⟩) n n,.slice (some ⟨b29,0,none⟩) n n,.bool false] 230)*pt b29 (cl (List.replicate n (.bool false)) 4)*pt b24 (cl (List.replicate n (.bool false)) 4) by ac_rfl))).perm (show _=R*pt hd (cl [pz q,vn at_,vn n,l,pz b31] 232)*pt q (cl [pz r,pz lg,pz t11] 269)*pt lg (cl [pz r,vn la,vn lz] 267)*RDev r s*pt t11 (cl [pz q,.slice none 0 0,.bool false] 328)*pt b31 (cl [pz hd,pz t11,.slice (some ⟨b24,0,none⟩) n n,.slice (some ⟨b29,0,none⟩) n n,.bool false] 230)*Sl 1 (.slice (some ⟨b24,0,none⟩) n n) n (bos (wasL n []))*pt b29 (cl (List.replicate n (.bool false)) 4) by ac_rfl))),t11,b24,b29,b31,rfl,rfl⟩
    . skip
      refine oh_x rfl rfl rfl (o_makeSlice (len:=n) (cap:=n) underlying228 sz4 by4 z4 rfl rfl rfl oqz oqz oqz) ?_;rintro _ _ ⟨b29,rfl,rfl⟩;refine ⟨by repeat (first|with_reducible exact dr_refl|apply dr_keep|apply dr_drop), ?_⟩;refine th_one (i:=6) kqz ?_;refine oh_v rfl rfl rfl (o_load p3 rfl hsqz rfl) ?_;refine th_one (i:=7) kqz ?_;refine oh_x rfl rfl rfl (o_makeSlice (len:=n) (cap:=n) underlying228 sz4 by4 z4 rfl rfl rfl oqz oqz oqz) ?_;rintro _ _ ⟨b24,rfl,rfl⟩;refine Zbc ?_;refine Zd3 ?_;rintro _ _ ⟨b31,rfl,rfl⟩;refine Zbf ?_;refine Zcj ?_;refine oh_u rfl rfl rfl (o_stU (l':=[pz q,vn at_,vn n,l,pz b31]) rfl upqz sz49 rfl rfl (by show 4<5;decide) rfl) drqz ?_;refine Zbs ?_;refine Z1 ?_;refine Zcp ?_;refine Zy ?_;exact ⟨_,_,res2 rfl rfl rfl,(λ g w h=>pt_bos (b:=b29) ((pt_bos (b:=b24) (h.perm (show _=R*pt hd (cl [pz q,vn at_,vn n,l,pz b31] 232)*pt q (cl [pz r,pz lg,pz t11] 269)*pt lg (cl [pz r,vn la,vn lz] 267)*RDev r s*pt t11 (cl [pz q,.slice none 0 0,.bool false] 328)*pt b31 (cl [pz hd,pz t11,.slice (some ⟨b24,0,none⟩) n n,.slice (some ⟨b29,0,none⟩) n n,.bool false] 230)*pt b29 (cl (List.replicate n (.bool false)) 4)*pt b24 (cl (List.replicate n (.bool false)) 4) by ac_rfl))).perm (show _=R*pt hd (cl [pz q,vn at_,vn n,l,pz b31] 232)*pt q (cl [pz r,pz lg,pz t11] 269)*pt lg (cl [pz r,vn la,vn lz] 267)*RDev r s*pt t11 (cl [pz q,.slice none 0 0,.bool false] 328)*pt b31 (cl [pz hd,pz t11,.slice (some ⟨b24,0,none⟩) n n,.slice (some ⟨b29,0,none⟩) n n,.bool false] 230)*Sl 1 (.slice (some ⟨b24,0,none⟩) n n) n (bos (wasL n []))*pt b29 (cl (List.replicate n (.bool false)) 4) by ac_rfl))),t11,b24,b29,b31,rfl,rfl⟩
end Go.Vl

namespace Go.Vl
open Go Go.Proofs Go.Proofs.Tryz
theorem RsRows.left {A Z:SP}{a:Option Addr}{fs:List (List Nat)}(h:RsRows A a fs):RsRows (A*Z) a fs:=by
  obtain ⟨vs,h1,h2,h3⟩:=h;exact ⟨vs,h1,h2.left,λ i hi=>by obtain ⟨b,c,e1,e2,e3,e4⟩:=h3 i hi;exact ⟨b,c,e1,e2,e3,e4.left⟩⟩
def pvO (o:Option Nat):Value:= .pointer (o.map λ b=>(⟨b,0,none⟩:Addr))
def gcs (d h w r g k:Option Nat)(n:Nat):List Value:=[pvO d,pvO h,pvO w,pvO r,pvO g,pvO k,vn n]
def s14 (n:Nat)(I:List Nat):DevS:=fromS (258+4*n) I
def T014 (zs:List Nat):WkT:=⟨onL zs,g0,g0,tf0⟩
def Y014 (M:MS):WkY:=⟨M,⟨[],0⟩,⟨[],0⟩,⟨[],0⟩,0⟩
attribute [local irreducible] crk crL crc Sl pt ro Dev imgS recS readS recsF rdW rdO rkT Parts rvl recordsS runsL adrF kcl xcl kys runA runsF layF ovF TxA adZ WkA SlB blkS conB imF RDev s14
end Go.Vl

namespace Go.Vl
open Go Go.Proofs Go.Proofs.Tryz
theorem wrL_used (ba:Nat)(L:List Nat)(T:WkT)(s:List Nat):usedB (wrL ba L T s)=usedB T:=by
  obtain ⟨h1,h2,h3⟩:=wrL_tk ba L T s
  funext b;unfold usedB;rw [h1,h2,h3]
theorem wrL_con {ba c:Nat}{sd:DevS}:∀ (L:List Nat) (T:WkT) (s:List Nat),c∉L->(∀b∈L,ba+256*b+256<=(imgS sd).length)->s.length<=248*L.length->conB (wrL ba L T s) sd ba c=conB T sd ba c
  |[],T,s,_,_,_=>rfl
  |[b],T,s,hc,hr,hs=>by
    show conB (T.write ba b (blkS 0 s)) sd ba c=_
    rw [con_write (blkS_len (by simpa using hs)) (hr b (by simp)),if_neg (λ e=>hc (by simp [e]))]
  |b::d::l,T,s,hc,hr,hs=>by
    show conB (wrL ba (d::l) (T.write ba b (blkS (d+1) (s.take 248))) (s.drop 248)) sd ba c=_
    simp only [List.length_cons] at hs
    rw [wrL_con (d::l) _ _ (λ h=>hc (List.mem_cons_of_mem _ h)) (λ x hx=>hr x (List.mem_cons_of_mem _ hx)) (by rw [List.length_drop,List.length_cons];omega),
      con_write (blkS_len (List.length_take_le _ _)) (hr b (by simp)),if_neg (λ e=>hc (by simp [e]))]
theorem wr_chn {ba:Nat}{sd:DevS}:∀ (L:List Nat) (T:WkT) (s:List Nat),L.Nodup->(∀b∈L,ba+256*b+256<=(imgS sd).length/\ b+1<4294967296/\ usedB T b=true)->s.length<=248*L.length->(L≠[]->248*(L.length-1)<s.length)→
    Chn (usedB T) (conB (wrL ba L T s) sd ba) (refL L) s L
  |[],T,s,_,_,hs,_=>by
    have:s=[]:=List.eq_nil_of_length_eq_zero (by simpa using hs);rw [this];exact .nil
  |[b],T,s,hn,hr,hs,h2=>by
    obtain ⟨r1,r2,r3⟩:=hr b (by simp);have h3:=h2 (by simp)
    simp only [List.length_cons,List.length_nil] at hs h3
    have:=Chn.cons (u:=usedB T) (c:=conB (wrL ba [b] T s) sd ba) (b:=b) (next:=0) (d:=s) (t:=[]) (l:=[]) r3 (by
      show conB (T.write ba b (blkS 0 s)) sd ba b=_
      rw [con_write (blkS_len oqz) r1,if_pos rfl]) oqz oqz (.inl rfl) (by decide) .nil
    rw [List.append_nil] at this
    exact this
  |b::d::l,T,s,hn,hr,hs,h2=>by
    obtain ⟨r1,r2,r3⟩:=hr b (by simp);obtain ⟨r4,r5,r6⟩:=hr d (by simp);have h3:=h2 (by simp)
    simp only [List.length_cons] at hs h3
    have hnb:b∉d::l:=(List.nodup_cons.1 hn).1;have ih:=wr_chn (ba:=ba) (sd:=sd) (d::l) (T.write ba b (blkS (d+1) (s.take 248))) (s.drop 248) (List.nodup_cons.1 hn).2 (λ x hx=>hr x (List.mem_cons_of_mem _ hx)) (by rw [List.length_drop,List.length_cons];omega) (λ _=>by rw [List.length_drop,List.length_cons];omega);have hl:(s.take 248).length=248:=(by rw [List.length_take];omega)
    have:=Chn.cons (u:=usedB T) (c:=conB (wrL ba (b::d::l) T s) sd ba) (b:=b) (next:=d+1) (d:=s.take 248) (t:=s.drop 248) (l:=d::l) r3 (by
      show conB (wrL ba (d::l) (T.write ba b (blkS (d+1) (s.take 248))) (s.drop 248)) sd ba b=_
      rw [wrL_con (d::l) _ _ hnb (λ x hx=>(hr x (List.mem_cons_of_mem _ hx)).1) (by rw [List.length_drop,List.length_cons];omega),con_write (blkS_len oqz) r1,if_pos rfl]) oqz oqz (.inr hl) r5 ih
    rw [List.take_append_drop] at this
    exact this
theorem put_spec {ba n:Nat}{T T2:WkT}{sd:DevS}{s:List Nat}{ref:Nat}(h:putS ba n T s=(ref,0,T2))(hr:∀b,b<n->ba+256*b+256<=(imgS sd).length/\ b+1<4294967296):
    s.length<=65536/\ ref=refL (takeL n (nblk s.length) T).1/\ (takeL n (nblk s.length) T).1.length=nblk s.length/\ (takeL n (nblk s.length) T).2.2=true/\ Chn (usedB T2) (conB T2 sd ba) ref s (takeL n (nblk s.length) T).1∧
    T2.tk=(λ b=>T.tk b||decide (b∈(takeL n (nblk s.length) T).1))/\ T2.lv=T.lv/\ T2.gv=T.gv/\∀c,c∉(takeL n (nblk s.length) T).1->conB T2 sd ba c=conB T sd ba c:=by
  unfold putS at h
  by_cases h0:65536<s.length
  . rw [if_pos h0] at h;simp at h
  rw [if_neg h0] at h
  obtain ⟨q1,q2,q3,q4,q5⟩:=takeL_spec n (nblk s.length) T;obtain ⟨L,hL⟩:∃L,(takeL n (nblk s.length) T).1=L:=⟨_,rfl⟩;rw [hL] at h q1 q2 q3 q4 ⊢
  cases hb:(takeL n (nblk s.length) T).2.2 with
  |false=>rw [hb,if_neg (by decide)] at h;simp at h
  |true=>
    rw [hb,if_pos rfl] at h
    simp only [Prod.mk.injEq,true_and] at h
    obtain ⟨rfl,rfl⟩:=h;have hlen:=q4 hb;obtain ⟨hk1,hk2⟩:=nblk_le s.length;have htk:=wrL_tk ba L (takeL n (nblk s.length) T).2.1 s;have hu:∀b∈L,usedB (takeL n (nblk s.length) T).2.1 b=true:=λ b hb=>by rw [q3];unfold usedB;simp [hb]
    refine ⟨by omega,rfl,hlen,rfl, ?_, ?_, ?_, ?_,λ c hc=> ?_⟩
    . rw [wrL_used]
      exact wr_chn L _ s q1 (λ b hb=>⟨(hr b (q2 b hb).1).1,(hr b (q2 b hb).1).2,hu b hb⟩) (by rw [hlen];exact hk1) (λ hne=>by
        rw [hlen];refine hk2 (Nat.pos_of_ne_zero λ e=>hne (List.eq_nil_of_length_eq_zero ?_));rw [hlen,e];rfl)
    . rw [htk.1,q3]
    . rw [htk.2.1,q3]
    . rw [htk.2.2,q3]
    rw [wrL_con L _ s hc (λ b hb=>(hr b (q2 b hb).1).1) (by rw [hlen];exact hk1),q3];rfl
def s0 (n:Nat):DevS:=s14 n (List.replicate (16512+256*n) 0)
theorem o_sadd {P:Program}{n:Nat}{ρ:Env}{A:SP}{dst:Option Tmp}{ty:TypeId}{pos:String}{after:Array Edge}{gd:Option (Nat×Bool)}{t t':TypeId}{x y:Operand}{a b:ByteArray}(hx:ev n ρ x= .string a)(hy:ev n ρ y= .string b)(hsz:a.size+b.size<=9223372036854775807):
    OpV P n ρ A ⟨dst,.binOp .add t x y t',ty,pos,after,gd⟩ (.string (a++b)):=
  opv_of λ w=>by
  simp only [execOp,hx,hy]
  rw [run_bind (w':=w) (a:= .string (a++b))]
  . rfl
  rw [run_bind (w':=w) (a:=())]
  . simp [binOp,Op.stringOp,pure];omega
  rfl
def awS:ByteArray:=sob (List.replicate 250 0)++⟨#[101,110,100]⟩
attribute [local irreducible] crk crL crc Sl pt ro Dev imgS recS readS recsF rdW rdO rkT Parts rvl recordsS runsL adrF kcl xcl kys runA runsF layF ovF TxA adZ WkA SlB blkS conB imF RDev s14 s0 wasL putS whS takeL
end Go.Vl

namespace Go.Vl
open Go Go.Proofs Go.Proofs.Tryz
def PRowsB (A:SP)(cs:List Value)(fs:List (List Nat)):Prop:=∃a cap,cs=[.slice a fs.length cap]/\ fs.length<=140737488351232/\ RsRows A a fs/\∀f∈fs,∀x∈f,x<256
structure Bs14 where
  bl:Int
  ls:List Int
  fs:List (List Nat)
def PBase (A:SP)(cs:List Value)(t:Bs14):Prop:=∃v1 v2,cs=[.int .i64 t.bl,v1,v2]/\ (-9223372036854775808<=t.bl/\ t.bl<=9223372036854775807)/\ PInts A [v1] t.ls/\ PRowsB A [v2] t.fs
def BadW (A:SP)(v:Value)(e:Int):Prop:=(v= .pointer none/\ e=1)∨(∃w,v=(pz w)/\ Has A w (cl [.pointer none,.pointer none,.map none,.map none,.int .i64 0,.bool false] 126)/\ e=1)∨∃w h t tk gv ls,v=(pz w)/\ Has A w (cl (wcs h t tk gv ls true) 126)/\ e=3
theorem BadW.left {A X:SP}{v:Value}{e:Int}(h:BadW A v e):BadW (A*X) v e:=by
  rcases h with h|⟨w,h1,h2,h3⟩|⟨w,a,b,c,d,f,h1,h2,h3⟩
  . exact .inl h
  . exact .inr (.inl ⟨w,h1,has_left h2,h3⟩)
  exact .inr (.inr ⟨w,a,b,c,d,f,h1,has_left h2,h3⟩)
theorem BadW.ne {A:SP}{v:Value}{e:Int}(h:BadW A v e):e≠0:=by
  rcases h with ⟨_,h⟩|⟨w,h1,h2,h⟩|⟨w,a,b,c,d,f,h1,h2,h⟩<;>omega
attribute [local irreducible] crk crL crc Sl pt ro Dev imgS recS readS recsF rdW rdO rkT Parts rvl recordsS runsL adrF kcl xcl kys runA runsF layF ovF TxA adZ WkA SlB blkS conB imF RDev s14 s0 wasL putS whS takeL
namespace Rg
end Rg
end Go.Vl

namespace Go.Vl
open Go Go.Proofs Go.Proofs.Tryz
def RsA (h p lg d at_ sz ba n lv:Nat)(M:MS)(s:DevS):SP:=pt h (cl (hcs p ba n lv none) 210)*pt lv (mpo .i64 M)*pt p (cl (pocs lg d none) 263)*pt lg (cl (lcs11 d at_ sz) 258)*Dev d s
def rootV (T:WkT)(s:DevS):Nat:=nm (ovF T.f 64 (((imgS s).drop 64).take 8))
attribute [local irreducible] crk crL crc Sl pt ro Dev imgS recS readS recsF rdW rdO rkT Parts rvl recordsS runsL adrF kcl xcl kys runA runsF layF ovF TxA adZ WkA comS
end Go.Vl

namespace Go.Vl
open Go Go.Proofs Go.Proofs.Tryz
def WkT.root (T:WkT)(v:Nat):WkT:={ T with f:=layF 64 (le 8 v) false T.f }
def nwE (N:Nat)(ba n:Int):Int:=if ba%64≠0∨ba<128∨n<0∨(N:Int)<ba∨((N:Int)-ba)/256<n then 2 else 0
attribute [local irreducible] crk crL crc Sl pt ro Dev imgS recS readS recsF rdW rdO rkT Parts rvl recordsS runsL adrF kcl xcl kys runA runsF layF ovF TxA adZ WkA comS
end Go.Vl

namespace Go.Vl
open Go Go.Proofs Go.Proofs.Tryz
def su5 (lg n fi:Int)(lv ar:Value):List Value:=[.int .i64 lg,.int .i64 n,.int .u8 fi,lv,ar]
def fitB (lg n:Int):Bool:=decide (128<=lg/\ lg<=32768/\ lg%64=0/\ 0<=n/\ n<=64)
def imZ (h n fi k:Nat):List Nat:=(List.range (h+256*n)).map λ j=>if j<h∨k<=j then 0 else (fi+j%251)%256
def im13 (h n fi:Nat):List Nat:=imZ h n fi (h+256*n)
theorem cut0 {a:Option Addr}{c:Nat}:cutAddr a c 0 1=a:=by unfold cutAddr;cases a<;>simp [Addr.add]
def stI (xs:List Nat):List Nat:=spl (sizedL 1024 xs) 128 (List.replicate 8 0)
def stZ (xs:List Nat)(k:Nat):List Nat:=spl (sizedL 1024 xs) 128 (List.replicate k 0)
def stD (xs:List Nat):DevS:=fromS 16 (stI xs)
def plA (at_:Int):Nat:=if at_%384<64 then (at_%384).toNat+64 else (at_%384).toNat+640
def plN (at_:Int)(m:Nat):Nat:=min (min m 12) ((if at_%384<64 then 128 else 1024)-plA at_)
structure Pu12 where
  q:Int
  a:Option Addr
  c:Nat
  b:List Nat
  fr:Bool
def Pu12.cells (x:Pu12):List Value:=[.int .i64 x.q,.slice x.a x.b.length x.c,.bool x.fr]
structure PuW (A:SP) (x:Pu12):Prop where
  q: -9223372036854775808<=x.q/\ x.q<=9223372036854775807
  cap:x.b.length<=x.c
  rs:Rs A x.a (bys x.b)
  by_:∀y∈x.b,y<256
theorem PuW.left {A X:SP}{x:Pu12}(h:PuW A x):PuW (A*X) x:=⟨h.q,h.cap,h.rs.left,h.by_⟩
def ptl (l:List Pu12):List Value:=l.flatMap Pu12.cells
def lay12 (f:TF)(x:Pu12):TF:=layF (plA x.q) (x.b.take (plN x.q x.b.length)) x.fr f
def laysK (l:List Pu12)(i:Nat):TF:=(l.take i).foldl lay12 tf0
def kdF (f:TF)(a:Nat):Int:=match f a with|none=>0|some (_,b)=>if b then 2 else 1
def bkK (f:TF):List Int:=(List.range 1024).map (kdF f)
def bkB (f:TF):List Nat:=(List.range 1024).map (byF f)
def bkc (f:TF):List Value:=ints (bkK f)++bys (bkB f)
def put1 (f:TF)(p x:Nat)(b:Bool):TF:=λ c=>if c=p then some (x,b) else f c
structure RunQ (f:TF) (k:Bool) (l:List Nat) (out:List (Nat×List Nat)):Prop where
  pos:∀r∈out,1<=r.2.length
  top:∀r∈out,∃x∈l,r.1+r.2.length=x+1
  gap:out.Pairwise λ r s=>r.1+r.2.length<s.1
  kind:∀r∈out,∀j,j<r.2.length->isK f k (r.1+j)=true/\ r.2[j]? =some (byF f (r.1+j))
  cov:∀x∈l,∃r∈out,r.1<=x/\ x<r.1+r.2.length
def kdT (f:TF)(a:Nat):Int:=match f a with
  |none=>0
  |some c=>if c.2 then 2 else 1
def lineC (f:TF)(d:Nat):List Value:=Value.int .i64 ((d:Nat):Int)::(bys ((List.range 64).map λ j=>byF f (64*d+j))++ints ((List.range 64).map λ j=>kdT f (64*d+j)))
def putB (f:TF)(a x:Nat)(fr:Bool):TF:=λ c=>if c=a then some (x,((f a).map (·.2)).getD fr) else f c
def RLines:List Nat->List Nat->TF->SP
  |v::vs,d::D,f=>RLines vs D f*pt v (cl (lineC f d) 382)
  |_,_,_=>emp
def ptrV (vs:List Nat):List Value:=vs.map λ v=>(pz v)
def posL (n:Nat):List Nat->Nat
  |[]=>0
  |d::D=>if d<n then posL n D+1 else 0
def insD (n:Nat)(D:List Nat):List Nat:=D.take (posL n D)++n::D.drop (posL n D)
def line0 (d:Nat):List Value:=Value.int .i64 ((d:Nat):Int)::(bys (List.replicate 64 0)++ints (List.replicate 64 0))
attribute [local irreducible] crk crL crc Sl pt ro Dev imgS recS readS recsF rdW rdO rkT Parts rvl recordsS runsL adrF kcl xcl kys runA runsF layF ovF TxA adZ WkA SlB blkS conB imF RDev lineC RLines
end Go.Vl

namespace Go.Vl
open Go Go.Proofs Go.Proofs.Tryz
def putsF (f:TF)(p:Nat)(X:List Nat)(fr:Bool):Nat->TF
  |0=>f
  |i+1=>putB (putsF f p X fr i) (p+i) (X.getD i 0) fr
def LnOk (k:Nat)(D:List Nat)(f:TF):Prop:=D.Pairwise (·<·)/\ (∀x,f x≠none->x/64∈D)/\ (∀d∈D,d<k)/\∀d∈D,∃x,f x≠none/\ x/64=d
attribute [local irreducible] crk crL crc Sl pt ro Dev imgS recS readS recsF rdW rdO rkT Parts rvl recordsS runsL adrF kcl xcl kys runA runsF layF ovF TxA adZ WkA SlB blkS conB imF RDev lineC RLines
end Go.Vl

namespace Go.Vl
open Go Go.Proofs Go.Proofs.Tryz
def lnA (kd:Bool)(f:TF)(d j:Nat):List Nat:=((List.range j).map λ k=>64*d+k).filter (isK f kd)
def adL (kd:Bool)(f:TF)(D:List Nat):List Nat:=D.flatMap λ d=>lnA kd f d 64
attribute [local irreducible] crk crL crc Sl pt ro Dev imgS recS readS recsF rdW rdO rkT Parts rvl recordsS runsL adrF kcl xcl kys runA runsF layF ovF TxA adZ WkA SlB blkS conB imF RDev lineC RLines
end Go.Vl

namespace Go.Vl
open Go Go.Proofs Go.Proofs.Tryz
def hasK (kd:Bool)(f:TF)(d:Nat):Bool:=(List.range 64).any λ k=>isK f kd (64*d+k)
attribute [local irreducible] crk crL crc Sl pt ro Dev imgS recS readS recsF rdW rdO rkT Parts rvl recordsS runsL adrF kcl xcl kys runA runsF layF ovF TxA adZ WkA SlB blkS conB imF RDev lineC RLines
end Go.Vl

namespace Go.Vl
open Go Go.Proofs Go.Proofs.Tryz
def runG (L:List (Nat×List Nat)):Prop:=L.Pairwise (λ r s=>r.1+r.2.length<s.1)/\∀r∈L,1<=r.2.length
attribute [local irreducible] crk crL crc Sl pt ro Dev imgS recS readS recsF rdW rdO rkT Parts rvl recordsS runsL adrF kcl xcl kys runA runsF layF ovF TxA adZ WkA SlB blkS conB imF RDev lineC RLines
end Go.Vl

namespace Go.Vl
open Go Go.Proofs Go.Proofs.Tryz
variable {nl at_ sz:Nat}
structure ByM (nl:Nat) (M:List Nat):Prop where
  len:M.length=(nl*64)
  by_:∀x∈M,x<256
def LogM (nl at_:Nat)(M:List Nat)(sz:Nat)(l:List (Int×Int))(I:List Nat):Prop:=nm ((I.drop at_).take 8)=l.length/\ (I.drop (at_+64)).take (needN l)=recsB M l/\ I.length=(nl*64)/\ Out at_ (at_+sz) I M
def kdO (f:TF)(a:Nat):Option Bool:=(f a).map (·.2)
structure PutG (G:List Nat) (f:TF):Prop where
  st:∀a,kdO f a=some false->(∀b,b+1=a->kdO f b≠some false)->a∈G
  en:∀a,kdO f a=some true->kdO f (a+1)=none->a+1∈G
def stoI:List (Nat×List Nat)->List Nat->List Nat
  |[],I=>I
  |r::l,I=>stoI l (spl I r.1 r.2)
end Go.Vl

namespace Go.Vl
open Go Go.Proofs Go.Proofs.Tryz
def bodyX (at_ sz:Nat):Nat×List Nat:=(at_+64,List.replicate (sz-64) 0)
variable {nl at_ sz:Nat}
structure RnOk (nl at_ sz:Nat) (R:List (Nat×List Nat)):Prop where
  gap:R.Pairwise λ r s=>r.1+r.2.length<s.1
  ok:∀r∈R,1<=r.2.length/\ (∀b∈r.2,b<256)/\ ((64<=r.1/\ r.1+r.2.length<=at_/\ r.1+r.2.length<=nl*64)∨(64<=r.1/\ at_+sz<=r.1/\ r.1+r.2.length<=(nl*64)))
theorem RnOk.top {R:List (Nat×List Nat)}(h:RnOk nl at_ sz R):∀r∈R,r.1+r.2.length<=(nl*64):=λ r hr=>by
  rcases (h.ok r hr).2.2 with h|h<;>omega
theorem RnOk.may {R:List (Nat×List Nat)}(h:RnOk nl at_ sz R):(extX R).all (mayX (nl*64) at_ sz)=true:=List.all_eq_true.2 λ x hx=>by
  obtain ⟨r,hr,rfl⟩:=List.mem_map.1 hx;obtain ⟨h1,_,h3⟩:=h.ok r hr;refine decide_eq_true ⟨by show (1:Int)<=(r.2.length:Int);omega,by show (64:Int)<=(r.1:Int);omega,by show (r.1:Int)+(r.2.length:Int)<=_;omega, ?_⟩
  show (r.1:Int)+(r.2.length:Int)<=_∨_<=(r.1:Int)
  omega
end Go.Vl

namespace Go.Vl
open Go Go.Proofs Go.Proofs.Tryz
structure ComK where
  nl:Nat
  at_:Nat
  sz:Nat
  F:List (Nat×List Nat)
  L:List (Nat×List Nat)
  I:List Nat
def ComK.M (c:ComK):List Nat:=stoI c.F c.I
def ComK.J (c:ComK):List Nat:=wrI c.at_ c.M (extX c.L)
def ComK.K (c:ComK):List Nat:=stoI c.L c.J
def ComK.E (c:ComK):List Nat:=if c.L=[] then c.M else spl c.K c.at_ (le 8 0)
structure ComOk (c:ComK):Prop where
  w:LogW (c.nl*64) c.at_ c.sz
  top:c.nl*64<=4194304
  f:RnOk c.nl c.at_ c.sz c.F
  l:RnOk c.nl c.at_ c.sz c.L
  i:ByM c.nl c.I
  dis:∀i,InX c.F i->¬InX c.L i
  need:needN (extX c.L)<=(c.sz-64)
  hd:(c.I.drop c.at_).take 8=List.replicate 8 0
def Old0 (c:ComK)(s:DevS):Prop:=AS (c.F++[bodyX c.at_ c.sz]) c.I s/\ s.ls.length=c.nl
def Mid0 (c:ComK)(s:DevS):Prop:=c.L≠[]/\ ByM c.nl c.M/\ AS (oldsL c.M (extX c.L)) c.J s/\ s.ls.length=c.nl
def New0 (c:ComK)(s:DevS):Prop:=WfD s/\ Cln s/\ s.ls.length=c.nl/\ imgS s=c.E
def Rol0 (c:ComK)(s:DevS):Prop:=c.L≠[]/\ ByM c.nl c.M/\ WfD s/\ Cln s/\ s.ls.length=c.nl/\ imgS s=spl c.J c.at_ (le 8 0)
def Set9 (c:ComK)(s:DevS):Prop:=Old0 c s∨New0 c s∨Rol0 c s
def Rec9 (c:ComK)(s:DevS):Prop:=Mid0 c s∨Set9 c s
def TxR (t q r lg la lz:Nat)(f:TF)(s:DevS):SP:=λ h=>∃a m c vs D,vs.length=m/\ D.length=m/\ LnOk s.ls.length D f/\ (pt q (cl [pz r,pz lg,((pz t))] 269)*pt lg (cl [pz r,vn la,vn lz] 267)*RDev r s*pt t (cl [pz q,.slice a m c,.bool false] 328)*Sl 1 (.slice a m c) m (ptrV vs)*RLines vs D f) h
def TxE (t q r lg la lz:Nat)(s:DevS):SP:=(pt q (cl [pz r,pz lg,.pointer none] 269))*(pt lg (cl [pz r,vn la,vn lz] 267))*RDev r s*(pt t (cl [pz q,.slice none 0 0,.bool true] 328))
variable {nl at_ sz:Nat}
def comK (nl at_ sz:Nat)(f:TF)(I:List Nat):ComK:=⟨nl,at_,sz,runsF (nl*64) true f,runsF (nl*64) false f,I⟩
attribute [local irreducible] runsF adrF runsL sumL
end Go.Vl

namespace Go.Vl
open Go Go.Proofs Go.Proofs.Tryz
structure Calm (nl at_ sz:Nat) (s:DevS):Prop where
  w:LogW (nl*64) at_ sz
  wf:WfD s
  on:s.off=false
  arms:s.arms=[]
  cln:Cln s
  len:s.ls.length=nl
  top:nl*64<=4194304
  hd:((imgS s).drop at_).take 8=List.replicate 8 0
theorem Calm.room {nl at_ sz k:Nat}{s:DevS}(h:Calm nl at_ sz s)(hk:k<=2199023255551):Room k s:=room_cln h.cln hk
def nl13 (lg n:Nat):Nat:=2+lg/64+4*n
def s13 (lg n fi:Nat):DevS:=fromS (nl13 lg n) (im13 (128+lg) n fi)
def T0 (g:Nat->Bool):WkT:=⟨g,g0,g0,tf0⟩
def wkX:List Nat:=(List.replicate 256 0).set 9 7
def wkF:TF:=layF 64 (le 8 258) false (layF 576 wkX true tf0)
structure GoodF (ba n k:Nat) (f:TF):Prop where
  inn:∀a,f a≠none->(64<=a/\ a<72)∨(ba<=a/\ a<ba+256*n)
  put:∃G:List Nat,G.length<=k/\ PutG G f
theorem GoodF.le {ba n k k':Nat}{f:TF}(h:GoodF ba n k f)(hk:k<=k'):GoodF ba n k' f:=⟨h.inn,let ⟨G,h1,h2⟩:=h.put;⟨G,Nat.le_trans h1 hk,h2⟩⟩
theorem used_take {T:WkT}{b:Nat}:usedB (T.take b)=λ c=>if c=b then true else usedB T c:=by
  funext c
  unfold usedB WkT.take updG
  by_cases h:c=b<;>simp [h]
def fillT (cell:Nat):Nat:=248/cell
def tblS (next cell:Nat)(cs:List (List Nat)):List Nat:=le 4 next++le 2 cs.length++le 2 cell++cs.flatten++List.replicate (248-cs.flatten.length) 0
def cutC (cell:Nat):Nat->List Nat->List (List Nat)
  |0,_=>[]
  |n+1,xs=>xs.take cell::cutC cell n (xs.drop cell)
theorem cutC_len (cell:Nat):∀ (n:Nat) (xs:List Nat),(cutC cell n xs).length=n
  |0,_=>rfl
  |n+1,xs=>by unfold cutC;rw [List.length_cons,cutC_len]
theorem cutC_snoc {cell:Nat}:∀{n:Nat} {xs:List Nat},cutC cell (n+1) xs=cutC cell n xs++[(xs.drop (n*cell)).take cell]
  |0,xs=>by simp [cutC]
  |n+1,xs=>by
    show xs.take cell::cutC cell (n+1) (xs.drop cell)=(xs.take cell::cutC cell n (xs.drop cell))++_
    rw [cutC_snoc,List.drop_drop,List.cons_append,Nat.succ_mul,Nat.add_comm (n*cell)]
theorem cutC_flat {cell:Nat}:∀{cs:List (List Nat)} {ys:List Nat},(∀x∈cs,x.length=cell)->cutC cell cs.length (cs.flatten++ys)=cs
  |[],_,_=>rfl
  |x::cs,ys,h=>by
    have hx:=h x (List.mem_cons_self ..)
    show (List.flatten (x::cs)++ys).take cell::cutC cell cs.length ((List.flatten (x::cs)++ys).drop cell)=_
    rw [List.flatten_cons,List.append_assoc,List.take_left' hx,List.drop_left' hx,cutC_flat λ y hy=>h y (List.mem_cons_of_mem _ hy)]
theorem flat_len {cell:Nat}:∀{cs:List (List Nat)},(∀x∈cs,x.length=cell)->cs.flatten.length=cs.length*cell
  |[],_=>by simp
  |x::cs,h=>by
    rw [List.flatten_cons,List.length_append,h x (List.mem_cons_self ..),flat_len λ y hy=>h y (List.mem_cons_of_mem _ hy),List.length_cons,Nat.succ_mul,Nat.add_comm]
def partsS (u:Nat->Bool)(c:Nat->List Nat)(nb cell:Nat):Nat->Nat->List (Nat×List (List Nat))->Option (List (Nat×List (List Nat)))
  |0,_,_=>none
  |k+1,ref,out=>
    if ref=0 then some out
    else if¬(u (ref-1)=true)∨nb<out.length then none
    else if nm (((c (ref-1)).drop 6).take 2)≠cell∨nm (((c (ref-1)).drop 4).take 2)<1∨fillT cell<nm (((c (ref-1)).drop 4).take 2) then none
    else if ((c (ref-1)).drop (8+nm (((c (ref-1)).drop 4).take 2)*cell)).any (λ x=>decide (x≠0))=true then none
    else if (match out.getLast? with|none=>false|some p=>decide (p.2.length+nm (((c (ref-1)).drop 4).take 2)<=fillT cell))=true then none
    else partsS u c nb cell k (nm ((c (ref-1)).take 4)) (out++[(ref-1,cutC cell (nm (((c (ref-1)).drop 4).take 2)) ((c (ref-1)).drop 8))])
inductive Tbl (u:Nat->Bool) (c:Nat->List Nat) (cell:Nat):Nat->List (Nat×List (List Nat))->Prop
  |nil:Tbl u c cell 0 []
  |cons {b next:Nat} {cs:List (List Nat)} {l:List (Nat×List (List Nat))} (hu:u b=true) (hc:c b=tblS next cell cs) (h1:1<=cs.length) (h2:cs.length<=fillT cell) (hl:∀x∈cs,x.length=cell) (hn:next<4294967296) (hs:∀p,l.head? =some p->fillT cell<cs.length+p.2.length) (h:Tbl u c cell next l):Tbl u c cell (b+1) ((b,cs)::l)
theorem fill_mul (cell n:Nat)(h:n<=fillT cell):n*cell<=248:=by
  unfold fillT at h
  exact Nat.le_trans (Nat.mul_le_mul_right cell h) (Nat.div_mul_le_self 248 cell)
theorem tblS_len {next cell:Nat}{cs:List (List Nat)}(hl:∀x∈cs,x.length=cell)(h:cs.length<=fillT cell):(tblS next cell cs).length=256:=by
  have h1:=flat_len hl;have h2:=fill_mul cell _ h
  unfold tblS;simp only [List.length_append,le_length,List.length_replicate];omega
theorem tblS_next {next cell:Nat}{cs:List (List Nat)}(h:next<4294967296):nm ((tblS next cell cs).take 4)=next:=by
  have:(tblS next cell cs).take 4=le 4 next:=by
    unfold tblS
    rw [List.append_assoc,List.append_assoc,List.append_assoc]
    exact List.take_left' (le_length _ _)
  rw [this,nm_le];exact Nat.mod_eq_of_lt h
theorem tblS_n {next cell:Nat}{cs:List (List Nat)}(h:cs.length<65536):nm (((tblS next cell cs).drop 4).take 2)=cs.length:=by
  have:((tblS next cell cs).drop 4).take 2=le 2 cs.length:=by
    unfold tblS
    rw [List.append_assoc,List.append_assoc,List.append_assoc,List.drop_left' (le_length _ _)]
    exact List.take_left' (le_length _ _)
  rw [this,nm_le];exact Nat.mod_eq_of_lt h
theorem tblS_size {next cell:Nat}{cs:List (List Nat)}(h:cell<65536):nm (((tblS next cell cs).drop 6).take 2)=cell:=by
  have:((tblS next cell cs).drop 6).take 2=le 2 cell:=by
    unfold tblS
    have e:(le 4 next++le 2 cs.length).length=6:=(by rw [List.length_append,le_length,le_length]);rw [List.append_assoc,List.append_assoc,List.drop_left' e]
    exact List.take_left' (le_length _ _)
  rw [this,nm_le];exact Nat.mod_eq_of_lt h
theorem tblS_8 {next cell:Nat}{cs:List (List Nat)}:(tblS next cell cs).drop 8=cs.flatten++List.replicate (248-cs.flatten.length) 0:=by
  unfold tblS
  have e:(le 4 next++le 2 cs.length++le 2 cell).length=8:=(by simp only [List.length_append,le_length]);rw [List.append_assoc,List.drop_left' e]
theorem tbl_parts {u:Nat->Bool}{c:Nat->List Nat}{nb cell ref:Nat}{l:List (Nat×List (List Nat))}(h:Tbl u c cell ref l)(hcell:1<=cell/\ cell<=62):∀ (k:Nat) (out:List (Nat×List (List Nat))),l.length<k->out.length+l.length<=nb+1->(∀p q,out.getLast? =some p->l.head? =some q->fillT cell<p.2.length+q.2.length)->partsS u c nb cell k ref out=some (out++l):=by
  induction h with
  |nil=>
    intro k out hk _ _;obtain ⟨k,rfl⟩:∃k',k=k'+1:=⟨k-1,by simp at hk;omega⟩
    unfold partsS;rw [if_pos rfl,List.append_nil]
  | @cons b next cs l hu hc h1 h2 hl hn hs h ih=>
    intro k out hk hnb hlast;rw [List.length_cons] at hk hnb
    obtain ⟨k,rfl⟩:∃k',k=k'+1:=⟨k-1,by omega⟩;have hf:fillT cell<=248:=Nat.div_le_self ..;have e4:nm (((c b).drop 4).take 2)=cs.length:=(by rw [hc];exact tblS_n oqz);have e6:nm (((c b).drop 6).take 2)=cell:=(by rw [hc];exact tblS_size oqz);have e0:nm ((c b).take 4)=next:=(by rw [hc];exact tblS_next hn);have e8:(c b).drop 8=cs.flatten++List.replicate (248-cs.flatten.length) 0:=(by rw [hc];exact tblS_8)
    have ez:((c b).drop (8+cs.length*cell)).any (λ x=>decide (x≠0))=false:=by
      rw [←List.drop_drop,e8,List.drop_left' (flat_len hl),List.any_eq_false]
      intro x hx
      simp [(List.mem_replicate.1 hx).2]
    unfold partsS
    rw [if_neg oqz,Nat.add_sub_cancel,e4,e6,e0,e8,if_neg (by rw [not_or];exact ⟨λ h9=>h9 hu,by omega⟩),if_neg oqz,if_neg (by rw [ez];decide),if_neg ?_,cutC_flat hl,ih k _ oqz (by rw [List.length_append,List.length_singleton];omega) ?_,List.append_assoc]
    . rfl
    . intro p q hp hq;rw [List.getLast?_append] at hp
      simp at hp
      subst hp;exact hs q hq
    intro h9
    cases ho:out.getLast? with
    |none=>rw [ho] at h9;cases h9
    |some p=>
      rw [ho] at h9
      have:=hlast p (b,cs) ho rfl;have h8:=of_decide_eq_true h9;have h7:p.2.length+cs.length<=fillT cell:=h8;have h6:fillT cell<p.2.length+cs.length:=this
      omega
structure Prt where
  blk:Int
  cells:List (List Nat)
  fresh:Bool
def stpT (fill:Nat)(out:List Prt)(p:Prt):List Prt:=match out.getLast? with
  |some q=>if q.cells.length+p.cells.length<=fill then out.dropLast++[⟨if q.blk= -1 then p.blk else q.blk,q.cells++p.cells,q.fresh⟩] else out++[p]
  |none=>[p]
def settleS (fill:Nat)(l:List Prt):List Prt:=l.foldl (stpT fill) []
def flatP (l:List Prt):List (List Nat):=l.flatMap (·.cells)
def GapP (fill:Nat):List Prt->Prop
  |p::q::l=>fill<p.cells.length+q.cells.length/\ GapP fill (q::l)
  |_=>True
theorem stpT_nil {fill:Nat}{p:Prt}:stpT fill [] p=[p]:=rfl
theorem stpT_snoc {fill:Nat}{out:List Prt}{q p:Prt}:stpT fill (out++[q]) p=if q.cells.length+p.cells.length<=fill then out++[⟨if q.blk= -1 then p.blk else q.blk,q.cells++p.cells,q.fresh⟩] else out++[q]++[p]:=by
  unfold stpT
  rw [List.getLast?_append]
  simp
theorem snoc_cases {α:Type}:∀l:List α,l=[]∨∃k x,l=k++[x]
  |[]=> .inl rfl
  |a::l=> .inr ⟨(a::l).dropLast,(a::l).getLast (List.cons_ne_nil _ _),(List.dropLast_concat_getLast (List.cons_ne_nil _ _)).symm⟩
theorem stpT_flat {fill:Nat}{out:List Prt}{p:Prt}:flatP (stpT fill out p)=flatP out++p.cells:=by
  unfold flatP
  rcases snoc_cases out with rfl|⟨k,q,rfl⟩
  . rw [stpT_nil];simp
  rw [stpT_snoc]
  split<;>simp [List.append_assoc]
theorem settle_flat {fill:Nat}:∀ (l out:List Prt),flatP (l.foldl (stpT fill) out)=flatP out++flatP l
  |[],out=>by simp [flatP]
  |p::l,out=>by
    rw [List.foldl_cons,settle_flat l,stpT_flat]
    simp [flatP,List.append_assoc]
def OkP (fill:Nat)(p:Prt):Prop:=1<=p.cells.length/\ p.cells.length<=fill
theorem stpT_ok {fill:Nat}{out:List Prt}{p:Prt}(ho:∀q∈out,OkP fill q)(hp:OkP fill p):∀q∈stpT fill out p,OkP fill q:=λ x hx=>by
  rcases snoc_cases out with rfl|⟨k,q,rfl⟩
  . rw [stpT_nil,List.mem_singleton] at hx;rw [hx];exact hp
  rw [stpT_snoc] at hx
  have hq:=ho q (by simp)
  split at hx
  . rename_i h
    rcases List.mem_append.1 hx with h1|h1
    . exact ho x (List.mem_append_left _ h1)
    rw [List.mem_singleton] at h1
    subst h1
    unfold OkP at hq hp ⊢
    simp only [List.length_append]
    omega
  rcases List.mem_append.1 hx with h1|h1
  . exact ho x h1
  rw [List.mem_singleton] at h1;rw [h1];exact hp
theorem settle_ok {fill:Nat}:∀ (l out:List Prt),(∀q∈out,OkP fill q)->(∀q∈l,OkP fill q)->∀q∈l.foldl (stpT fill) out,OkP fill q
  |[],out,h,_=>h
  |p::l,out,h,h2=>by
    rw [List.foldl_cons]
    exact settle_ok l _ (stpT_ok h (h2 p (List.mem_cons_self ..))) λ q hq=>h2 q (List.mem_cons_of_mem _ hq)
theorem gap_snoc {fill:Nat}:∀{l:List Prt} {q p:Prt},GapP fill (l++[q])->fill<q.cells.length+p.cells.length->GapP fill (l++[q]++[p])
  |[],q,p,_,h=>⟨h,trivial⟩
  |[a],q,p,h1,h=>⟨h1.1,h,trivial⟩
  |a::b::l,q,p,h1,h=>⟨h1.1,gap_snoc (l:=b::l) h1.2 h⟩
theorem gap_grow {fill:Nat}:∀{l:List Prt} {q q2:Prt},GapP fill (l++[q])->q.cells.length<=q2.cells.length->GapP fill (l++[q2])
  |[],q,q2,_,_=>trivial
  |[a],q,q2,h1,h=>⟨by have:=h1.1;omega,trivial⟩
  |a::b::l,q,q2,h1,h=>⟨h1.1,gap_grow (l:=b::l) h1.2 h⟩
theorem stpT_gap {fill:Nat}{out:List Prt}{p:Prt}(h:GapP fill out):GapP fill (stpT fill out p):=by
  rcases snoc_cases out with rfl|⟨k,q,rfl⟩
  . rw [stpT_nil];trivial
  rw [stpT_snoc]
  split
  . exact gap_grow h (by simp)
  exact gap_snoc h oqz
theorem settle_gap {fill:Nat}:∀ (l out:List Prt),GapP fill out->GapP fill (l.foldl (stpT fill) out)
  |[],out,h=>h
  |p::l,out,h=>by rw [List.foldl_cons];exact settle_gap l _ (stpT_gap h)
def blksP (l:List Prt):List Int:=(l.map (·.blk)).filter (λ b=>decide (b≠-1))
theorem stpT_blks {fill:Nat}{out:List Prt}{p:Prt}:(blksP (stpT fill out p)).Sublist (blksP out++blksP [p]):=by
  unfold blksP
  rcases snoc_cases out with rfl|⟨k,q,rfl⟩
  . rw [stpT_nil];simp
  rw [stpT_snoc]
  split
  . simp only [List.map_append,List.filter_append,List.append_assoc]
    refine List.Sublist.append (List.Sublist.refl _) ?_
    by_cases h:q.blk= -1<;>by_cases h2:p.blk= -1<;>simp [h,h2]
  simp only [List.map_append,List.filter_append,List.append_assoc]
  exact List.Sublist.refl _
theorem settle_blks {fill:Nat}:∀ (l out:List Prt),(blksP (l.foldl (stpT fill) out)).Sublist (blksP out++blksP l)
  |[],out=>by simp [blksP]
  |p::l,out=>by
    rw [List.foldl_cons]
    refine (settle_blks l _).trans ?_;have h1:=stpT_blks (fill:=fill) (out:=out) (p:=p);have:blksP (p::l)=blksP [p]++blksP l:=(by unfold blksP;simp [List.filter_cons];split<;>simp);rw [this,←List.append_assoc]
    exact h1.append (List.Sublist.refl _)
def findT:List Prt->Nat->Option (Nat×Nat)
  |[],_=>none
  |p::l,i=>if i<p.cells.length then some (0,i) else (findT l (i-p.cells.length)).map λ x=>(x.1+1,x.2)
theorem flatP_cons (p:Prt)(l:List Prt):flatP (p::l)=p.cells++flatP l:=by simp [flatP]
theorem flatP_app (k l:List Prt):flatP (k++l)=flatP k++flatP l:=by simp [flatP]
theorem find_some:∀{l:List Prt} {i k n:Nat},findT l i=some (k,n)->∃p,l[k]? =some p/\ n<p.cells.length/\ i=(flatP (l.take k)).length+n
  |[],i,k,n,h=>by cases h
  |p::l,i,k,n,h=>by
    unfold findT at h
    split at h
    . rename_i h1
      simp only [Option.some.injEq,Prod.mk.injEq] at h
      obtain ⟨rfl,rfl⟩:=h;exact ⟨p,rfl,h1,by simp [flatP]⟩
    rename_i h1
    cases hf:findT l (i-p.cells.length) with
    |none=>rw [hf] at h;cases h
    |some x=>
      rw [hf] at h
      simp only [Option.map_some,Option.some.injEq,Prod.mk.injEq] at h
      obtain ⟨rfl,rfl⟩:=h;obtain ⟨q,g1,g2,g3⟩:=find_some (l:=l) (i:=i-p.cells.length) (k:=x.1) (n:=x.2) hf;refine ⟨q,by rw [List.getElem?_cons_succ];exact g1,g2, ?_⟩;rw [List.take_succ_cons,flatP_cons,List.length_append]
      omega
theorem find_none:∀{l:List Prt} {i:Nat},findT l i=none->(flatP l).length<=i
  |[],i,_=>by simp [flatP]
  |p::l,i,h=>by
    unfold findT at h
    split at h
    . cases h
    rename_i h1
    have:=find_none (l:=l) (i:=i-p.cells.length) (by simpa using h);rw [flatP_cons,List.length_append]
    omega
def chunkP (fill:Nat):Nat->Int->List (List Nat)->List Prt
  |0,_,_=>[]
  |k+1,b,cs=>if cs.length=0 then [] else ⟨b,cs.take fill,false⟩::chunkP fill k (-1) (cs.drop fill)
theorem chunk_flat {fill:Nat}(hf:1<=fill):∀{k:Nat} {b:Int} {cs:List (List Nat)},cs.length<=k->flatP (chunkP fill k b cs)=cs
  |0,b,cs,h=>by
    obtain rfl:cs=[]:=List.eq_nil_of_length_eq_zero oqz
    rfl
  |k+1,b,cs,h=>by
    unfold chunkP
    split
    . rename_i h1
      obtain rfl:cs=[]:=List.eq_nil_of_length_eq_zero h1
      rfl
    rw [flatP_cons,chunk_flat hf (by rw [List.length_drop];omega)]
    exact List.take_append_drop fill cs
theorem chunk_ok {fill:Nat}(hf:1<=fill):∀{k:Nat} {b:Int} {cs:List (List Nat)},∀q∈chunkP fill k b cs,OkP fill q/\ q.fresh=false
  |0,b,cs,q,h=>by cases h
  |k+1,b,cs,q,h=>by
    unfold chunkP at h
    split at h
    . cases h
    rcases List.mem_cons.1 h with rfl|h
    . refine ⟨⟨?_, ?_⟩,rfl⟩
      . show 1<=(cs.take fill).length;rw [List.length_take];omega
      show (cs.take fill).length<=fill;rw [List.length_take];omega
    exact chunk_ok hf q h
theorem chunk_none {fill:Nat}:∀{k:Nat} {cs:List (List Nat)},∀q∈chunkP fill k (-1) cs,q.blk= -1
  |0,cs,q,h=>by cases h
  |k+1,cs,q,h=>by
    unfold chunkP at h
    split at h
    . cases h
    rcases List.mem_cons.1 h with rfl|h
    . rfl
    exact chunk_none q h
theorem blks_app (k l:List Prt):blksP (k++l)=blksP k++blksP l:=by simp [blksP]
theorem blks_none {l:List Prt}(h:∀q∈l,q.blk= -1):blksP l=[]:=by
  unfold blksP
  rw [List.filter_eq_nil_iff]
  intro b hb;obtain ⟨q,hq,rfl⟩:=List.mem_map.1 hb
  simp [h q hq]
theorem chunk_blks {fill:Nat}:∀{k:Nat} {b:Int} {cs:List (List Nat)},(blksP (chunkP fill k b cs)).Sublist [b]
  |0,b,cs=>by simp [chunkP,blksP]
  |k+1,b,cs=>by
    unfold chunkP
    split
    . simp [blksP]
    have:blksP (⟨b,cs.take fill,false⟩::chunkP fill k (-1) (cs.drop fill))=blksP [⟨b,cs.take fill,false⟩]++blksP (chunkP fill k (-1) (cs.drop fill)):=blks_app [_] _;rw [this,blks_none chunk_none,List.append_nil]
    unfold blksP
    by_cases h:b= -1<;>simp [h]
def placeT (was:List Prt)(i:Nat):Nat×Nat:=(findT was i).getD (was.length-1,((was[was.length-1]?).map (·.cells.length)).getD 0)
def insP (fill:Nat)(was:List Prt)(i:Nat)(ins:List (List Nat)):List Prt:=match was[(placeT was i).1]? with
  |none=>chunkP fill ins.length (-1) ins
  |some p=>was.take (placeT was i).1++chunkP fill (p.cells.length+ins.length) p.blk (p.cells.take (placeT was i).2++ins++p.cells.drop (placeT was i).2)++was.drop ((placeT was i).1+1)
theorem place_ok {was:List Prt}{i:Nat}(h:was≠[])(hi:i<=(flatP was).length):∃p,was[(placeT was i).1]? =some p/\ (placeT was i).2<=p.cells.length/\ i=(flatP (was.take (placeT was i).1)).length+(placeT was i).2:=by
  unfold placeT
  cases hf:findT was i with
  |some x=>
    obtain ⟨p,h1,h2,h3⟩:=find_some (l:=was) (i:=i) (k:=x.1) (n:=x.2) hf;exact ⟨p,h1,Nat.le_of_lt h2,h3⟩
  |none=>
    have h1:=find_none hf
    rcases snoc_cases was with rfl|⟨k,q,rfl⟩
    . exact absurd rfl h
    have e:(k++[q]).length-1=k.length:=(by simp);have e2:(k++[q])[k.length]? =some q:=(by simp);refine ⟨q, ?_, ?_, ?_⟩
    . show (k++[q])[(k++[q]).length-1]? =some q;rw [e,e2]
    . show ((((k++[q])[(k++[q]).length-1]?).map (·.cells.length)).getD 0)<=_;rw [e,e2];exact Nat.le_refl _
    show i=(flatP ((k++[q]).take ((k++[q]).length-1))).length+((((k++[q])[(k++[q]).length-1]?).map (·.cells.length)).getD 0)
    rw [e,e2,List.take_left' rfl]
    have:(flatP (k++[q])).length=(flatP k).length+q.cells.length:=(by rw [flatP_app,List.length_append];simp [flatP])
    show i=(flatP k).length+q.cells.length
    omega
theorem split_at {was:List Prt}{k:Nat}{p:Prt}(h:was[k]? =some p):was=was.take k++p::was.drop (k+1):=by
  obtain ⟨hk,rfl⟩:=List.getElem?_eq_some_iff.1 h;rw [List.getElem_cons_drop]
  exact (List.take_append_drop k was).symm
theorem take_mid {α:Type}{X Y W:List α}{m:Nat}(h:m<=Y.length):(X++(Y++W)).take (X.length+m)=X++Y.take m:=by
  rw [List.take_append,List.take_of_length_le oqz,Nat.add_sub_cancel_left,List.take_append_of_le_length h]
theorem drop_mid {α:Type}{X Y W:List α}{m:Nat}(h:m<=Y.length):(X++(Y++W)).drop (X.length+m)=Y.drop m++W:=by
  rw [List.drop_append,List.drop_of_length_le oqz,Nat.add_sub_cancel_left,List.drop_append_of_le_length h,List.nil_append]
theorem ins_flat {fill:Nat}(hf:1<=fill){was:List Prt}{i:Nat}{ins:List (List Nat)}(hi:i<=(flatP was).length):flatP (insP fill was i ins)=(flatP was).take i++ins++(flatP was).drop i:=by
  by_cases h:was=[]
  . subst h;have hi0:i=0:=(by simpa [flatP] using hi);subst hi0
    show flatP (chunkP fill ins.length (-1) ins)=_
    rw [chunk_flat hf (Nat.le_refl _)]
    simp [flatP]
  obtain ⟨p,h1,h2,h3⟩:=place_ok h hi
  unfold insP
  rw [h1]
  show flatP (was.take _++chunkP fill _ p.blk _++was.drop _)=_
  have hs:=split_at h1;rw [flatP_app,flatP_app,chunk_flat hf (by simp only [List.length_append,List.length_take,List.length_drop];omega)]
  have e:flatP was=flatP (was.take (placeT was i).1)++(p.cells++flatP (was.drop ((placeT was i).1+1))):=by
    conv=>lhs;rw [hs]
    rw [flatP_app,flatP_cons]
  obtain ⟨X,hX⟩:∃X,flatP (was.take (placeT was i).1)=X:=⟨_,rfl⟩;obtain ⟨W,hW⟩:∃W,flatP (was.drop ((placeT was i).1+1))=W:=⟨_,rfl⟩;obtain ⟨m,hm⟩:∃m,(placeT was i).2=m:=⟨_,rfl⟩;rw [hm,hX] at h3
  rw [hm] at h2
  rw [e,hX,hW,hm,h3,take_mid h2,drop_mid h2]
  simp only [List.append_assoc]
def delP (i n:Nat):List Prt->Nat->List Prt
  |[],_=>[]
  |p::l,at_=>(if 0<(p.cells.take (min (i-at_) p.cells.length)++p.cells.drop (min (i+n-at_) p.cells.length)).length then [⟨p.blk,p.cells.take (min (i-at_) p.cells.length)++p.cells.drop (min (i+n-at_) p.cells.length),false⟩] else [])++delP i n l (at_+p.cells.length)
theorem take_min {α:Type}{X:List α}{a:Nat}:X.take (min a X.length)=X.take a:=by
  rcases Nat.le_total a X.length with h|h
  . rw [Nat.min_eq_left h]
  rw [Nat.min_eq_right h,List.take_of_length_le (Nat.le_refl _),List.take_of_length_le h]
theorem drop_min {α:Type}{X:List α}{a:Nat}:X.drop (min a X.length)=X.drop a:=by
  rcases Nat.le_total a X.length with h|h
  . rw [Nat.min_eq_left h]
  rw [Nat.min_eq_right h,List.drop_of_length_le (Nat.le_refl _),List.drop_of_length_le h]
theorem del_flat {i n:Nat}:∀{l:List Prt} {at_:Nat},flatP (delP i n l at_)=(flatP l).take (i-at_)++(flatP l).drop (i+n-at_)
  |[],at_=>by simp [delP,flatP]
  |p::l,at_=>by
    unfold delP
    rw [flatP_app,flatP_cons,del_flat,take_min,drop_min]
    have e1:flatP (if 0<(p.cells.take (i-at_)++p.cells.drop (i+n-at_)).length then [(⟨p.blk,p.cells.take (i-at_)++p.cells.drop (i+n-at_),false⟩:Prt)] else [])=p.cells.take (i-at_)++p.cells.drop (i+n-at_):=by
      split
      . simp [flatP]
      rename_i h
      have:p.cells.take (i-at_)++p.cells.drop (i+n-at_)=[]:=List.eq_nil_of_length_eq_zero oqz;rw [this];rfl
    rw [e1]
    rw [List.take_append,List.drop_append]
    -- where the cut lies
    by_cases h1:i<=at_+p.cells.length
    . by_cases h2:i+n<=at_+p.cells.length
      . rw [show i-(at_+p.cells.length)=0 by omega,show i+n-(at_+p.cells.length)=0 by omega,show i-at_-p.cells.length=0 by omega,show i+n-at_-p.cells.length=0 by omega]
        simp
      rw [show i-(at_+p.cells.length)=0 by omega,show i-at_-p.cells.length=0 by omega,show i+n-at_-p.cells.length=i+n-(at_+p.cells.length) by omega,List.drop_of_length_le (show p.cells.length<=i+n-at_ by omega)]
      simp
    rw [show i-at_-p.cells.length=i-(at_+p.cells.length) by omega,show i+n-at_-p.cells.length=i+n-(at_+p.cells.length) by omega,List.drop_of_length_le (show p.cells.length<=i+n-at_ by omega)]
    simp
theorem del_ok {i n fill:Nat}:∀{l:List Prt} {at_:Nat},(∀q∈l,OkP fill q)->∀q∈delP i n l at_,OkP fill q/\ q.fresh=false
  |[],at_,_,q,h=>by cases h
  |p::l,at_,hl,q,h=>by
    unfold delP at h
    rcases List.mem_append.1 h with h1|h1
    . split at h1
      . rename_i h2
        rw [List.mem_singleton] at h1
        subst h1;have hp:=hl p (List.mem_cons_self ..)
        unfold OkP at hp ⊢
        refine ⟨⟨h2, ?_⟩,rfl⟩
        show (p.cells.take _++p.cells.drop _).length<=fill
        rw [List.length_append,List.length_take,List.length_drop]
        omega
      cases h1
    exact del_ok (λ x hx=>hl x (List.mem_cons_of_mem _ hx)) q h1
theorem del_blks {i n:Nat}:∀{l:List Prt} {at_:Nat},(blksP (delP i n l at_)).Sublist (blksP l)
  |[],at_=>by simp [delP,blksP]
  |p::l,at_=>by
    unfold delP
    rw [blks_app]
    have e:blksP (p::l)=blksP [p]++blksP l:=blks_app [p] l;rw [e]
    refine List.Sublist.append ?_ del_blks
    split
    . unfold blksP;simp
    simp [blksP]
def takeP (n:Nat):List Prt->WkT->List Prt×Int×WkT
  |[],T=>([],0,T)
  |p::l,T=>if p.blk= -1 then (if (takeS n T).2.1=0 then (⟨((takeS n T).1:Nat),p.cells,true⟩::(takeP n l (takeS n T).2.2).1,(takeP n l (takeS n T).2.2).2) else (p::l,(takeS n T).2.1,T)) else (p::(takeP n l T).1,(takeP n l T).2)
def giveP (us:List Int):List Nat->WkT->WkT
  |[],T=>T
  |b::l,T=>giveP us l (if (b:Int)∈us then T else T.give b)
def rowT (cell:Nat)(l:List Prt)(k:Nat):List Nat:=tblS (((l[k+1]?).map (λ p=>p.blk.toNat+1)).getD 0) cell (((l[k]?).map (·.cells)).getD [])
def writeP (ba cell:Nat)(s:DevS)(l:List Prt):Nat->WkT->WkT
  |0,T=>T
  |j+1,T=>match l[l.length-(j+1)]? with
    |none=>T
    |some p=>writeP ba cell s l j (if p.fresh=false/\ conB T s ba p.blk.toNat=rowT cell l (l.length-(j+1)) then T else T.write ba p.blk.toNat (rowT cell l (l.length-(j+1))))
def DjT (T:WkT):Prop:=∀b,T.tk b=true->T.lv b=false
theorem takeS_0 {n:Nat}{T:WkT}(h:(takeS n T).2.1=0):freeB T (takeS n T).1=true/\ (takeS n T).1<n/\ (takeS n T).2.2=T.take (takeS n T).1:=by
  unfold takeS at h ⊢
  cases hl:leastB T n with
  |none=>rw [hl] at h;cases h
  |some b=>
    obtain ⟨h1,h2,_⟩:=leastB_some.1 hl;exact ⟨h2,h1,rfl⟩
theorem free_used {T:WkT}{b:Nat}(h:freeB T b=true):usedB T b=false:=by
  unfold freeB at h;unfold usedB
  cases h1:T.lv b<;>cases h2:T.tk b<;>simp [h1,h2] at h ⊢
theorem dj_take {T:WkT}{b:Nat}(h:DjT T)(hf:freeB T b=true):DjT (T.take b):=λ c hc=>by
  have hc:updG T.tk b true c=true:=hc
  show T.lv c=false
  unfold updG at hc
  split at hc
  . rename_i e;subst e
    unfold freeB at hf
    cases h1:T.lv c<;>simp [h1] at hf ⊢
  exact h c hc
structure TakeOk (n:Nat) (l:List Prt) (T:WkT) (l2:List Prt) (T2:WkT):Prop where
  len:l2.map (·.cells)=l.map (·.cells)
  lv:T2.lv=T.lv
  gv:T2.gv=T.gv
  f:T2.f=T.f
  dj:DjT T2
  at_:∀p∈l2,0<=p.blk/\ usedB T2 p.blk.toNat=true
  us:∀b,usedB T2 b=(usedB T b||decide ((b:Int)∈l2.map (·.blk)))
  nd:(blksP l).Nodup->(l2.map (·.blk)).Nodup
  fr:∀p∈l2,p.fresh=false->p∈l
  or_:∀p∈l2,(p∈l/\ p.blk≠-1)∨usedB T p.blk.toNat=false
theorem takeP_ok {n:Nat}:∀{l:List Prt} {T:WkT} {l2:List Prt} {T2:WkT},DjT T->(∀p∈l,p.blk≠-1->0<=p.blk/\ usedB T p.blk.toNat=true)->takeP n l T=(l2,0,T2)->TakeOk n l T l2 T2
  |[],T,l2,T2,hd,_,h=>by
    unfold takeP at h
    simp only [Prod.mk.injEq] at h
    obtain ⟨rfl,_,rfl⟩:=h;exact ⟨rfl,rfl,rfl,rfl,hd,λ p hp=>(by cases hp),λ b=>by simp,λ _=>List.nodup_nil,λ p hp=>(by cases hp),λ p hp=>(by cases hp)⟩
  |p::l,T,l2,T2,hd,hu,h=>by
    unfold takeP at h
    by_cases hb:p.blk= -1
    . rw [if_pos hb] at h
      by_cases he:(takeS n T).2.1=0
      . rw [if_pos he] at h
        obtain ⟨hf,hn,ht⟩:=takeS_0 he;obtain ⟨b,hbe⟩:∃b,(takeS n T).1=b:=⟨_,rfl⟩;rw [ht,hbe] at h
        rw [hbe] at hf hn
        simp only [Prod.mk.injEq] at h
        obtain ⟨h1,h2⟩:=h;have hut:∀c,usedB (T.take b) c=if c=b then true else usedB T c:=λ c=>by rw [used_take]
        have ih:=takeP_ok (l:=l) (T:=T.take b) (l2:=(takeP n l (T.take b)).1) (T2:=T2) (dj_take hd hf) (λ q hq hq1=>by
          obtain ⟨g1,g2⟩:=hu q (List.mem_cons_of_mem _ hq) hq1
          exact ⟨g1,by rw [hut];split;rfl;exact g2⟩) (by rw [←h2])
        subst h1;refine ⟨?_,ih.lv,ih.gv,ih.f,ih.dj,λ q hq=> ?_,λ c=> ?_,λ hnd=> ?_,λ q hq hq1=> ?_,λ q hq=> ?_⟩
        . rw [List.map_cons,List.map_cons,ih.len]
        . rcases List.mem_cons.1 hq with rfl|hq
          . refine ⟨Int.natCast_nonneg _, ?_⟩
            show usedB T2 (((b:Nat):Int)).toNat=true
            rw [Int.toNat_natCast,ih.us,hut,if_pos rfl];rfl
          exact ih.at_ q hq
        . rw [ih.us,hut,List.map_cons]
          by_cases e:c=b
          . subst e;simp
          rw [if_neg e]
          congr 1
          rw [decide_eq_decide,List.mem_cons]
          constructor
          . exact .inr
          rintro (h9|h9)
          . exact absurd (Int.ofNat.inj h9) e
          exact h9
        . rw [List.map_cons,List.nodup_cons]
          have hbl:blksP (p::l)=blksP l:=(by unfold blksP;simp [hb]);refine ⟨λ h9=> ?_,ih.nd (hbl▸hnd)⟩;obtain ⟨q,hq,hqb⟩:=List.mem_map.1 h9;have hqb:q.blk=((b:Nat):Int):=hqb
          rcases ih.or_ q hq with ⟨g1,g2⟩|g1
          . have:=(hu q (List.mem_cons_of_mem _ g1) g2).2;rw [hqb,Int.toNat_natCast,free_used hf] at this;cases this
          rw [hqb,Int.toNat_natCast,hut,if_pos rfl] at g1;cases g1
        . rcases List.mem_cons.1 hq with rfl|hq
          . cases hq1
          exact List.mem_cons_of_mem _ (ih.fr q hq hq1)
        rcases List.mem_cons.1 hq with rfl|hq
        . refine .inr ?_
          show usedB T (((b:Nat):Int)).toNat=false
          rw [Int.toNat_natCast];exact free_used hf
        rcases ih.or_ q hq with ⟨g1,g2⟩|g1
        . exact .inl ⟨List.mem_cons_of_mem _ g1,g2⟩
        refine .inr ?_;rw [hut] at g1
        split at g1
        . cases g1
        exact g1
      rw [if_neg he] at h
      simp only [Prod.mk.injEq] at h
      exact absurd h.2.1 he
    rw [if_neg hb] at h
    simp only [Prod.mk.injEq] at h
    obtain ⟨h1,h2⟩:=h;have ih:=takeP_ok (l:=l) (T:=T) (l2:=(takeP n l T).1) (T2:=T2) hd (λ q hq hq1=>hu q (List.mem_cons_of_mem _ hq) hq1) (by rw [←h2]);subst h1;obtain ⟨g1,g2⟩:=hu p (List.mem_cons_self ..) hb;refine ⟨?_,ih.lv,ih.gv,ih.f,ih.dj,λ q hq=> ?_,λ c=> ?_,λ hnd=> ?_,λ q hq hq1=> ?_,λ q hq=> ?_⟩
    . rw [List.map_cons,List.map_cons,ih.len]
    . rcases List.mem_cons.1 hq with rfl|hq
      . exact ⟨g1,by rw [ih.us,g2];rfl⟩
      exact ih.at_ q hq
    . rw [ih.us,List.map_cons]
      by_cases e:(c:Int)=p.blk
      . have:c=p.blk.toNat:=(by omega);rw [this,g2];rfl
      congr 1
      rw [decide_eq_decide,List.mem_cons]
      constructor
      . exact .inr
      rintro (h9|h9)
      . exact absurd h9 e
      exact h9
    . have hbl:blksP (p::l)=p.blk::blksP l:=(by unfold blksP;simp [hb]);rw [hbl,List.nodup_cons] at hnd
      rw [List.map_cons,List.nodup_cons]
      refine ⟨λ h9=> ?_,ih.nd hnd.2⟩;obtain ⟨q,hq,hqb⟩:=List.mem_map.1 h9;have hqb:q.blk=p.blk:=hqb
      rcases ih.or_ q hq with ⟨k1,k2⟩|k1
      . refine hnd.1 ?_
        unfold blksP
        rw [List.mem_filter]
        exact ⟨List.mem_map.2 ⟨q,k1,hqb⟩,by simpa using hb⟩
      rw [hqb,g2] at k1;cases k1
    . rcases List.mem_cons.1 hq with rfl|hq
      . exact List.mem_cons_self ..
      exact List.mem_cons_of_mem _ (ih.fr q hq hq1)
    rcases List.mem_cons.1 hq with rfl|hq
    . exact .inl ⟨List.mem_cons_self ..,hb⟩
    rcases ih.or_ q hq with ⟨k1,k2⟩|k1
    . exact .inl ⟨List.mem_cons_of_mem _ k1,k2⟩
    exact .inr k1
theorem used_giveD {T:WkT}{b:Nat}(h:DjT T):usedB (T.give b)=λ c=>if c=b then false else usedB T c:=by
  funext c
  unfold usedB WkT.give
  by_cases ht:T.tk b=true
  . rw [if_pos ht]
    dsimp only
    unfold updG
    by_cases hc:c=b
    . subst hc;rw [if_pos rfl,if_pos rfl,h _ ht];rfl
    rw [if_neg hc,if_neg hc]
  rw [if_neg ht]
  dsimp only
  unfold updG
  by_cases hc:c=b
  . subst hc;rw [if_pos rfl,if_pos rfl];cases h1:T.tk c<;>simp [h1] at ht ⊢
  rw [if_neg hc,if_neg hc]
theorem lv_giveT {T:WkT}{b:Nat}:(T.give b).lv=T.lv:=by unfold WkT.give;split<;>rfl
theorem f_giveT {T:WkT}{b:Nat}:(T.give b).f=T.f:=by unfold WkT.give;split<;>rfl
theorem dj_give {T:WkT}{b:Nat}(h:DjT T):DjT (T.give b):=λ c hc=>by
  rw [lv_giveT]
  unfold WkT.give at hc
  split at hc
  . have hc:updG T.tk b false c=true:=hc
    unfold updG at hc
    split at hc
    . cases hc
    exact h c hc
  exact h c hc
structure GiveOk (us:List Int) (l:List Nat) (T T2:WkT):Prop where
  dj:DjT T2
  lv:T2.lv=T.lv
  f:T2.f=T.f
  us:∀c,usedB T2 c=(usedB T c&& !(decide (c∈l)&& !decide ((c:Int)∈us)))
theorem giveP_ok {us:List Int}:∀{l:List Nat} {T:WkT},DjT T->GiveOk us l T (giveP us l T)
  |[],T,h=>⟨h,rfl,rfl,λ c=>by simp [giveP]⟩
  |b::l,T,h=>by
    unfold giveP
    by_cases hb:(b:Int)∈us
    . rw [if_pos hb]
      have ih:=giveP_ok (us:=us) (l:=l) h;refine ⟨ih.dj,ih.lv,ih.f,λ c=> ?_⟩;rw [ih.us]
      by_cases e:c=b
      . subst e;simp [hb]
      simp [e]
    rw [if_neg hb]
    have ih:=giveP_ok (us:=us) (l:=l) (dj_give (b:=b) h);refine ⟨ih.dj,by rw [ih.lv,lv_giveT],by rw [ih.f,f_giveT],λ c=> ?_⟩;rw [ih.us,used_giveD h]
    by_cases e:c=b
    . subst e;simp [hb]
    simp [e]
theorem writeP_ok {ba cell:Nat}{s:DevS}{l:List Prt}(hnd:(l.map (·.blk)).Nodup)(hin:∀p∈l,0<=p.blk/\ ba+256*p.blk.toNat+256<=(imgS s).length)(hrow:∀k,k<l.length->(rowT cell l k).length=256):∀ (j:Nat) (T:WkT),j<=l.length→
    usedB (writeP ba cell s l j T)=usedB T/\ (writeP ba cell s l j T).lv=T.lv/\ (writeP ba cell s l j T).tk=T.tk/\ (writeP ba cell s l j T).gv=T.gv
  |0,T,_=>⟨rfl,rfl,rfl,rfl⟩
  |j+1,T,hj=>by
    have hk:l.length-(j+1)<l.length:=(by omega)
    unfold writeP
    rw [List.getElem?_eq_getElem hk]
    dsimp only
    split
    . obtain ⟨h1,h2,h3,h4⟩:=writeP_ok hnd hin hrow j T oqz;exact ⟨h1,h2,h3,h4⟩
    obtain ⟨h1,h2,h3,h4⟩:=writeP_ok hnd hin hrow j (T.write ba l[l.length-(j+1)].blk.toNat (rowT cell l (l.length-(j+1)))) oqz;exact ⟨h1,h2,h3,h4⟩
theorem writeP_other {ba cell:Nat}{s:DevS}{l:List Prt}(hin:∀p∈l,0<=p.blk/\ ba+256*p.blk.toNat+256<=(imgS s).length)(hrow:∀k,k<l.length->(rowT cell l k).length=256){b:Nat}:∀ (j:Nat) (T:WkT),j<=l.length->(∀k (h:k<l.length),l.length-j<=k->l[k].blk.toNat≠b)->conB (writeP ba cell s l j T) s ba b=conB T s ba b
  |0,T,_,_=>rfl
  |j+1,T,hj,hb=>by
    have hk:l.length-(j+1)<l.length:=(by omega)
    unfold writeP
    rw [List.getElem?_eq_getElem hk]
    dsimp only
    have hb2:∀k (h:k<l.length),l.length-j<=k->l[k].blk.toNat≠b:=λ k h h1=>hb k h oqz
    split
    . exact writeP_other hin hrow j T oqz hb2
    rw [writeP_other hin hrow j _ oqz hb2]
    rw [con_write (hrow _ hk) (hin _ (List.getElem_mem hk)).2,if_neg λ e=>hb _ hk (Nat.le_refl _) e.symm]
theorem writeP_row {ba cell:Nat}{s:DevS}{l:List Prt}(hnd:(l.map (·.blk)).Nodup)(hin:∀p∈l,0<=p.blk/\ ba+256*p.blk.toNat+256<=(imgS s).length)(hrow:∀k,k<l.length->(rowT cell l k).length=256):∀ (j:Nat) (T:WkT),j<=l.length->∀k (h:k<l.length),l.length-j<=k->conB (writeP ba cell s l j T) s ba l[k].blk.toNat=rowT cell l k
  |0,T,_,k,h,hk=>by omega
  |j+1,T,hj,k,h,hkj=>by
    have hk:l.length-(j+1)<l.length:=(by omega)
    unfold writeP
    rw [List.getElem?_eq_getElem hk]
    dsimp only
    by_cases e:k=l.length-(j+1)
    . subst e
      have hoth:∀k (h:k<l.length),l.length-j<=k->l[k].blk.toNat≠l[l.length-(j+1)].blk.toNat:=λ k h1 h2 h3=>by
        have g1:=(hin _ (List.getElem_mem h1)).1;have g2:=(hin _ (List.getElem_mem hk)).1;have g3:l[k].blk=l[l.length-(j+1)].blk:=(by omega);have:=List.pairwise_iff_getElem.1 hnd (l.length-(j+1)) k (by rw [List.length_map];exact hk) (by rw [List.length_map];exact h1) oqz;rw [List.getElem_map,List.getElem_map] at this
        exact this g3.symm
      split
      . rename_i h9
        rw [writeP_other hin hrow j T oqz hoth]
        exact h9.2
      rw [writeP_other hin hrow j _ oqz hoth,con_write (hrow _ hk) (hin _ (List.getElem_mem hk)).2,if_pos rfl]
    split
    . exact writeP_row hnd hin hrow j T oqz k h oqz
    exact writeP_row hnd hin hrow j _ oqz k h oqz
def refP:List Prt->Nat
  |[]=>0
  |p::_=>p.blk.toNat+1
theorem rowT_drop {cell k:Nat}{l:List Prt}(h:k<l.length):rowT cell l k=tblS (refP (l.drop (k+1))) cell l[k].cells:=by
  unfold rowT
  rw [List.getElem?_eq_getElem h]
  congr 1
  have:l[k+1]? =(l.drop (k+1))[0]? :=(by rw [List.getElem?_drop]);rw [this]
  cases l.drop (k+1)<;>rfl
theorem tbl_of {u:Nat->Bool}{c:Nat->List Nat}{cell:Nat}{l:List Prt}(hok:∀p∈l,OkP (fillT cell) p/\ (∀x∈p.cells,x.length=cell)/\ p.blk.toNat+1<4294967296/\ u p.blk.toNat=true)(hgap:GapP (fillT cell) l)(hrow:∀k (h:k<l.length),c l[k].blk.toNat=rowT cell l k):
    Tbl u c cell (refP l) (l.map λ p=>(p.blk.toNat,p.cells)):=by
  have key:∀m:List Prt,GapP (fillT cell) m->(∀p∈m,p∈l)->(∀k (h:k<m.length),c m[k].blk.toNat=tblS (refP (m.drop (k+1))) cell m[k].cells)->Tbl u c cell (refP m) (m.map λ p=>(p.blk.toNat,p.cells)):=by
    intro m
    induction m with
    |nil=>intro _ _ _;exact .nil
    |cons p m ih=>
      intro hg hm hr;obtain ⟨g1,g2,g3,g4⟩:=hok p (hm p (List.mem_cons_self ..))
      have hn:refP m<4294967296:=by
        cases m with
        |nil=>decide
        |cons q m=>exact (hok q (hm q (by simp))).2.2.1
      refine .cons (next:=refP m) g4 (hr 0 (by simp)) g1.1 g1.2 g2 hn (λ q hq=> ?_) (ih ?_ (λ q hq=>hm q (List.mem_cons_of_mem _ hq)) λ k h=> ?_)
      . cases m with
        |nil=>cases hq
        |cons q2 m=>
          simp only [List.map_cons,List.head?_cons,Option.some.injEq] at hq
          subst hq;exact hg.1
      . cases m with
        |nil=>trivial
        |cons q m=>exact hg.2
      exact hr (k+1) (by simp;omega)
  exact key l hgap (λ p hp=>hp) λ k h=>by rw [hrow k h,rowT_drop h]
def asP (l:List (Nat×List (List Nat))):List Prt:=l.map λ x=>⟨((x.1:Nat):Int),x.2,false⟩
theorem asP_blks (l:List (Nat×List (List Nat))):blksP (asP l)=l.map λ x=>((x.1:Nat):Int):=by
  unfold blksP asP
  rw [List.map_map,List.filter_eq_self.2 λ b hb=>by
    obtain ⟨x,_,rfl⟩:=List.mem_map.1 hb
    show decide (((x.1:Nat):Int)≠-1)=true
    exact decide_eq_true oqz]
  rfl
theorem tbl_facts {u:Nat->Bool}{c:Nat->List Nat}{cell ref:Nat}{l:List (Nat×List (List Nat))}(h:Tbl u c cell ref l):(∀p∈asP l,OkP (fillT cell) p/\ (∀x∈p.cells,x.length=cell)/\ u p.blk.toNat=true/\ 0<=p.blk/\ p.fresh=false)/\ GapP (fillT cell) (asP l)/\ (ref=0↔l=[]):=by
  induction h with
  |nil=>exact ⟨λ p hp=>(by cases hp),trivial,by simp⟩
  | @cons b next cs l hu hc h1 h2 hl hn hs h ih=>
    refine ⟨λ p hp=> ?_, ?_,by simp⟩
    . rcases List.mem_cons.1 hp with rfl|hp
      . exact ⟨⟨h1,h2⟩,hl,hu,Int.natCast_nonneg _,rfl⟩
      exact ih.1 p hp
    cases l with
    |nil=>trivial
    |cons q l=>exact ⟨hs q rfl,ih.2.1⟩
theorem tbl_nodup {u:Nat->Bool}{c:Nat->List Nat}{cell ref:Nat}{l:List (Nat×List (List Nat))}(h:Tbl u c cell ref l):(l.map (·.1)).Nodup:=by
  have uniq:∀{r:Nat} {k m:List (Nat×List (List Nat))},Tbl u c cell r k->Tbl u c cell r m->k.length=m.length:=by
    intro r k m hk
    induction hk generalizing m with
    |nil=>intro hm;cases hm;rfl
    | @cons b next cs k hu hc h1 h2 hl hn hs h ih=>
      intro hm
      cases hm with
      | @cons _ next2 cs2 m hu2 hc2 h12 h22 hl2 hn2 hs2 hm2=>
        have e:next=next2:=by
          have g1:nm ((c b).take 4)=next:=(by rw [hc];exact tblS_next hn);have g2:nm ((c b).take 4)=next2:=(by rw [hc2];exact tblS_next hn2)
          omega
        subst e;rw [List.length_cons,List.length_cons,ih hm2]
  have suf:∀{r:Nat} {k:List (Nat×List (List Nat))},Tbl u c cell r k->∀b∈k.map (·.1),∃m,Tbl u c cell (b+1) m/\ m.length<=k.length:=by
    intro r k hk
    induction hk with
    |nil=>intro b hb;cases hb
    | @cons b0 next cs k hu hc h1 h2 hl hn hs h ih=>
      intro b hb;rw [List.map_cons,List.mem_cons] at hb
      rcases hb with rfl|hb
      . exact ⟨_,.cons hu hc h1 h2 hl hn hs h,Nat.le_refl _⟩
      obtain ⟨m,g1,g2⟩:=ih b hb;exact ⟨m,g1,by rw [List.length_cons];omega⟩
  induction h with
  |nil=>exact List.nodup_nil
  | @cons b next cs l hu hc h1 h2 hl hn hs h ih=>
    rw [List.map_cons,List.nodup_cons]
    refine ⟨λ hb=> ?_,ih⟩;obtain ⟨m,g1,g2⟩:=suf h b hb;have:=uniq g1 (.cons hu hc h1 h2 hl hn hs h);rw [List.length_cons] at this
    omega
structure CarryOk (ba cell:Nat) (s:DevS) (T:WkT) (lst:List (Nat×List (List Nat))) (l l2:List Prt) (T4:WkT):Prop where
  tbl:Tbl (usedB T4) (conB T4 s ba) cell (refP l2) (l2.map λ p=>(p.blk.toNat,p.cells))
  cells:flatP l2=flatP l
  us:∀c,usedB T4 c=((usedB T c&& !decide (c∈lst.map (·.1)))||decide ((c:Int)∈l2.map (·.blk)))
  other:∀c:Nat,¬((c:Int)∈l2.map (·.blk))->conB T4 s ba c=conB T s ba c
  lv:T4.lv=T.lv
  dj:DjT T4
theorem flatP_map {l l2:List Prt}(h:l2.map (·.cells)=l.map (·.cells)):flatP l2=flatP l:=by
  unfold flatP
  rw [List.flatMap_def,List.flatMap_def,h]
theorem mem_cells {l l2:List Prt}(h:l2.map (·.cells)=l.map (·.cells)){p:Prt}(hp:p∈l2):∃q∈l,q.cells=p.cells:=by
  have:p.cells∈l2.map (·.cells):=List.mem_map.2 ⟨p,hp,rfl⟩;rw [h] at this
  obtain ⟨q,h1,h2⟩:=List.mem_map.1 this;exact ⟨q,h1,h2⟩
theorem gap_cells {fill:Nat}:∀{l l2:List Prt},l2.map (·.cells)=l.map (·.cells)->GapP fill l->GapP fill l2
  |[],l2,h,_=>by cases l2 with|nil=>trivial|cons p l2=>simp at h
  |[p],l2,h,_=>by
    match l2,h with
    |[q],_=>trivial
    |[],h=>simp at h
    |_::_::_,h=>simp at h
  |p::q::l,l2,h,hg=>by
    match l2,h with
    |[],h=>simp at h
    |[_],h=>simp at h
    |p2::q2::l2,h=>
      simp only [List.map_cons,List.cons.injEq] at h
      refine ⟨by rw [h.1,h.2.1];exact hg.1,gap_cells (l:=q::l) (by simp only [List.map_cons,List.cons.injEq];exact h.2) hg.2⟩
theorem carry_law {ba cell n:Nat}{s:DevS}{T T2:WkT}{ref:Nat}{lst:List (Nat×List (List Nat))}{l l2:List Prt}(hcell:1<=cell/\ cell<=62)(hd:DjT T)(ht:Tbl (usedB T) (conB T s ba) cell ref lst)(hun:∀b,usedB T b=true->b<n)(hin:∀b,b<n->ba+256*b+256<=(imgS s).length)(hn:n<4294967295)
    (hok:∀p∈l,OkP (fillT cell) p/\∀x∈p.cells,x.length=cell) (hgap:GapP (fillT cell) l) (hbl:(blksP l).Sublist (lst.map λ x=>((x.1:Nat):Int))) (hneg:∀p∈l,p.blk≠-1->(p.blk∈blksP l)) (hlt:∀b,usedB T2 b=true->b<n)
    (h:takeP n l T=(l2,0,T2)):CarryOk ba cell s T lst l l2 (writeP ba cell s l2 l2.length (giveP (l2.map (·.blk)) (lst.map (·.1)) T2)):=by
  obtain ⟨hf1,_,_⟩:=tbl_facts ht;have hnd:=tbl_nodup ht
  have hu1:∀x∈lst,usedB T x.1=true:=λ x hx=>by
    have:=(hf1 ⟨((x.1:Nat):Int),x.2,false⟩ (List.mem_map.2 ⟨x,hx,rfl⟩)).2.2.1
    simpa using this
  have hbn:(lst.map λ x=>((x.1:Nat):Int)).Nodup:=by
    have e:(lst.map λ x=>((x.1:Nat):Int))=(lst.map (·.1)).map λ b:Nat=>(b:Int):=(by rw [List.map_map];rfl)
    rw [e]
    exact List.pairwise_map.2 (hnd.imp λ hab h9=>hab (Int.ofNat.inj h9))
  have htk:=takeP_ok hd (λ p hp hp1=>by
    have h1:=hbl.subset (hneg p hp hp1);obtain ⟨x,hx,hxe⟩:=List.mem_map.1 h1;have hxe:((x.1:Nat):Int)=p.blk:=hxe;rw [←hxe]
    exact ⟨Int.natCast_nonneg _,by rw [Int.toNat_natCast];exact hu1 x hx⟩) h
  have hgv:=giveP_ok (us:=l2.map (·.blk)) (l:=lst.map (·.1)) htk.dj;obtain ⟨T3,hT3⟩:∃T3,giveP (l2.map (·.blk)) (lst.map (·.1)) T2=T3:=⟨_,rfl⟩;rw [hT3] at hgv ⊢
  have hnd2:=htk.nd (hbn.sublist hbl)
  have hin2:∀p∈l2,0<=p.blk/\ ba+256*p.blk.toNat+256<=(imgS s).length:=λ p hp=>by
    obtain ⟨g1,g2⟩:=htk.at_ p hp;exact ⟨g1,hin _ (hlt _ g2)⟩
  have hok2:∀p∈l2,OkP (fillT cell) p/\∀x∈p.cells,x.length=cell:=λ p hp=>by
    obtain ⟨q,hq,hqe⟩:=mem_cells htk.len hp;obtain ⟨g1,g2⟩:=hok q hq
    unfold OkP at g1 ⊢
    rw [hqe] at g1 g2
    exact ⟨g1,g2⟩
  have hrow:∀k,k<l2.length->(rowT cell l2 k).length=256:=λ k hk=>by
    rw [rowT_drop hk]
    obtain ⟨g1,g2⟩:=hok2 _ (List.getElem_mem hk);exact tblS_len g2 g1.2
  obtain ⟨w1,w2,w3,w4⟩:=writeP_ok hnd2 hin2 hrow l2.length T3 (Nat.le_refl _)
  have hus:∀c,usedB (writeP ba cell s l2 l2.length T3) c=((usedB T c&& !decide (c∈lst.map (·.1)))||decide ((c:Int)∈l2.map (·.blk))):=λ c=>by
    rw [w1,hgv.us,htk.us]
    by_cases e1:(c:Int)∈l2.map (·.blk)<;>by_cases e2:c∈lst.map (·.1)<;>cases usedB T c<;>simp [e1,e2]
  refine ⟨tbl_of (λ p hp=> ?_) (gap_cells htk.len hgap) (λ k hk=>writeP_row hnd2 hin2 hrow l2.length T3 (Nat.le_refl _) k hk oqz),flatP_map htk.len,hus,λ c hc=> ?_,by rw [w2,hgv.lv,htk.lv],λ c hc=> ?_⟩
  . obtain ⟨g1,g2⟩:=hok2 p hp;obtain ⟨g3,g4⟩:=htk.at_ p hp;refine ⟨g1,g2,by have:=hlt _ g4;omega, ?_⟩;rw [hus]
    have:(((p.blk.toNat:Nat)):Int)=p.blk:=(by omega);rw [this,decide_eq_true (List.mem_map.2 ⟨p,hp,rfl⟩),Bool.or_true]
  . rw [writeP_other hin2 hrow l2.length T3 (Nat.le_refl _) λ k hk _ h9=>hc (List.mem_map.2 ⟨l2[k],List.getElem_mem hk,by have:=(hin2 _ (List.getElem_mem hk)).1;show l2[k].blk=_;omega⟩)]
    unfold conB
    rw [hgv.f,htk.f]
  rw [w2]
  rw [w3] at hc
  exact hgv.dj c hc
theorem blk_mem {l:List Prt}{p:Prt}(hp:p∈l)(h:p.blk≠-1):p.blk∈blksP l:=by
  unfold blksP
  rw [List.mem_filter]
  exact ⟨List.mem_map.2 ⟨p,hp,rfl⟩,by simpa using h⟩
theorem flat_mem {l:List Prt}{p:Prt}{x:List Nat}(hp:p∈l)(hx:x∈p.cells):x∈flatP l:=List.mem_flatMap.2 ⟨p,hp,hx⟩
theorem settle_cells {fill cell:Nat}{l:List Prt}(h:∀x∈flatP l,x.length=cell):∀p∈settleS fill l,∀x∈p.cells,x.length=cell:=λ p hp x hx=>by
  have h1:=flat_mem hp hx
  unfold settleS at h1
  rw [settle_flat] at h1
  exact h x (by simpa [flatP] using h1)
theorem ins_ok {fill:Nat}(hf:1<=fill){was:List Prt}{i:Nat}{ins:List (List Nat)}(hw:∀p∈was,OkP fill p):∀q∈insP fill was i ins,OkP fill q:=λ q hq=>by
  unfold insP at hq
  split at hq
  . exact (chunk_ok hf q hq).1
  rcases List.mem_append.1 hq with h1|h1
  . rcases List.mem_append.1 h1 with h2|h2
    . exact hw q (List.mem_of_mem_take h2)
    exact (chunk_ok hf q h2).1
  exact hw q (List.mem_of_mem_drop h1)
theorem ins_blks {fill:Nat}{was:List Prt}{i:Nat}{ins:List (List Nat)}:(blksP (insP fill was i ins)).Sublist (blksP was):=by
  unfold insP
  split
  . rw [blks_none chunk_none];exact List.nil_sublist _
  rename_i p hp
  have hs:=split_at hp
  conv=>rhs;rw [hs]
  have e:p::was.drop ((placeT was i).1+1)=[p]++was.drop ((placeT was i).1+1):=rfl;rw [e,←List.append_assoc,blks_app,blks_app,blks_app,blks_app]
  refine List.Sublist.append (List.Sublist.append (List.Sublist.refl _) ?_) (List.Sublist.refl _)
  by_cases h:p.blk= -1
  . rw [h,blks_none chunk_none];exact List.nil_sublist _
  have:blksP [p]=[p.blk]:=(by unfold blksP;simp [h]);rw [this];exact chunk_blks
theorem asP_flat (l:List (Nat×List (List Nat))):flatP (asP l)=l.flatMap (·.2):=by unfold flatP asP;rw [List.flatMap_map]
theorem plan_law {ba cell n:Nat}{s:DevS}{T T2:WkT}{ref:Nat}{lst:List (Nat×List (List Nat))}{plan l2:List Prt}(hcell:1<=cell/\ cell<=62)(hd:DjT T)(ht:Tbl (usedB T) (conB T s ba) cell ref lst)(hun:∀b,usedB T b=true->b<n)(hin:∀b,b<n->ba+256*b+256<=(imgS s).length)(hn:n<4294967295)
    (hok:∀p∈plan,OkP (fillT cell) p) (hce:∀x∈flatP plan,x.length=cell) (hbl:(blksP plan).Sublist (blksP (asP lst))) (hlt:∀b,usedB T2 b=true->b<n)
    (h:takeP n (settleS (fillT cell) plan) T=(l2,0,T2)):CarryOk ba cell s T lst (settleS (fillT cell) plan) l2 (writeP ba cell s l2 l2.length (giveP (l2.map (·.blk)) (lst.map (·.1)) T2)):=
  carry_law hcell hd ht hun hin hn (λ p hp=>⟨settle_ok plan [] (λ q hq=>(by cases hq)) hok p hp,settle_cells hce p hp⟩) (settle_gap plan [] trivial) ((settle_blks plan []).trans (show (blksP []++blksP plan).Sublist _ from by rw [←asP_blks];exact hbl)) (λ p hp hp1=>blk_mem hp hp1) hlt h
theorem fill_pos {cell:Nat}(h:1<=cell/\ cell<=62):4<=fillT cell/\ fillT cell<=248:=by
  unfold fillT
  exact ⟨(Nat.le_div_iff_mul_le oqz).2 oqz,Nat.div_le_self ..⟩
def newP (l:List Prt):Nat:=l.countP λ p=>decide (p.blk= -1)
theorem newP_app (l m:List Prt):newP (l++m)=newP l+newP m:=List.countP_append ..
theorem newP_le (l:List Prt):newP l<=l.length:=List.countP_le_length
theorem newP_no {l:List Prt}(h:∀p∈l,p.blk≠-1):newP l=0:=List.countP_eq_zero.2 λ p hp=>by simpa using h p hp
theorem newP_cons (p:Prt)(l:List Prt):newP (p::l)=newP l+(if p.blk= -1 then 1 else 0):=by
  unfold newP;rw [List.countP_cons];by_cases h:p.blk= -1<;>simp [h]
theorem newP_one (p:Prt):newP [p]=if p.blk= -1 then 1 else 0:=by rw [newP_cons];simp [newP]
theorem stpT_new {fill:Nat}{out:List Prt}{p:Prt}:newP (stpT fill out p)<=newP out+newP [p]:=by
  rcases snoc_cases out with rfl|⟨k,q,rfl⟩
  . rw [stpT_nil];simp [newP]
  rw [stpT_snoc]
  split
  . rw [newP_app,newP_app,newP_one,newP_one,newP_one]
    dsimp only
    by_cases h1:q.blk= -1
    . rw [if_pos h1,if_pos h1];omega
    rw [if_neg h1,if_neg h1];exact Nat.le_add_right _ _
  rw [newP_app];exact Nat.le_refl _
theorem settle_new {fill:Nat}:∀ (l out:List Prt),newP (l.foldl (stpT fill) out)<=newP out+newP l
  |[],out=>by simp [newP]
  |p::l,out=>by
    rw [List.foldl_cons]
    have h1:=settle_new (fill:=fill) l (stpT fill out p);have h2:=stpT_new (fill:=fill) (out:=out) (p:=p);rw [newP_one] at h2
    rw [newP_cons]
    omega
theorem chunk_nil {fill k:Nat}{b:Int}:chunkP fill k b []=[]:=by cases k<;>simp [chunkP]
theorem chunk_cnt {fill:Nat}(hf:1<=fill):∀{k:Nat} {b:Int} {cs:List (List Nat)},cs.length<=k->(chunkP fill k b cs).length*fill<=cs.length+(fill-1)
  |0,b,cs,h=>by simp [chunkP]
  |k+1,b,cs,h=>by
    unfold chunkP
    split
    . simp
    rename_i h1
    rw [List.length_cons,Nat.succ_mul]
    by_cases h2:fill<=cs.length
    . have ih:=chunk_cnt hf (k:=k) (b:= -1) (cs:=cs.drop fill) (by rw [List.length_drop];omega);rw [List.length_drop] at ih
      omega
    rw [List.drop_of_length_le oqz,chunk_nil]
    simp;omega
theorem chunk_new {fill k:Nat}{b:Int}{cs:List (List Nat)}(hf:4<=fill)(hb:b≠-1)(h:cs.length<=k)(hc:cs.length<=fill+20):newP (chunkP fill k b cs)<=5/\ (chunkP fill k b cs).length<=6:=by
  have hlen:=chunk_cnt (fill:=fill) oqz (b:=b) h
  have h6:(chunkP fill k b cs).length<=6:=by
    rcases Nat.lt_or_ge 6 (chunkP fill k b cs).length with h7|h7
    . have:=Nat.mul_le_mul_right fill h7
      omega
    exact h7
  refine ⟨?_,h6⟩
  cases k with
  |zero=>simp [chunkP,newP]
  |succ k=>
    unfold chunkP at h6 ⊢
    split at h6
    . rename_i h1;rw [if_pos h1];simp [newP]
    rename_i h1
    rw [if_neg h1,newP_cons,if_neg hb]
    rw [List.length_cons] at h6
    have:=newP_le (chunkP fill k (-1) (cs.drop fill))
    omega
theorem ins_new {fill:Nat}{was:List Prt}{i:Nat}{ins:List (List Nat)}(hf:4<=fill)(hw:∀p∈was,p.cells.length<=fill/\ p.blk≠-1)(hi:ins.length<=20):newP (insP fill was i ins)<=5/\ (insP fill was i ins).length<=was.length+5:=by
  unfold insP
  cases h:was[(placeT was i).1]? with
  |none=>
    dsimp only
    have h1:=chunk_cnt (fill:=fill) oqz (b:= -1) (cs:=ins) (Nat.le_refl _)
    have h5:(chunkP fill ins.length (-1) ins).length<=5:=by
      rcases Nat.lt_or_ge 5 (chunkP fill ins.length (-1) ins).length with h7|h7
      . have:=Nat.mul_le_mul_right fill h7
        omega
      exact h7
    have:=newP_le (chunkP fill ins.length (-1) ins);exact ⟨by omega,by omega⟩
  |some p=>
    dsimp only
    obtain ⟨hk,rfl⟩:=List.getElem?_eq_some_iff.1 h;have hp:=hw _ (List.getElem_mem hk)
    have hle:(was[(placeT was i).1].cells.take (placeT was i).2++ins++was[(placeT was i).1].cells.drop (placeT was i).2).length=was[(placeT was i).1].cells.length+ins.length:=by
      rw [List.length_append,List.length_append]
      have:=congrArg List.length (List.take_append_drop (placeT was i).2 was[(placeT was i).1].cells);rw [List.length_append] at this
      omega
    obtain ⟨h1,h2⟩:=chunk_new (fill:=fill) (k:=was[(placeT was i).1].cells.length+ins.length) (b:=was[(placeT was i).1].blk) (cs:=was[(placeT was i).1].cells.take (placeT was i).2++ins++was[(placeT was i).1].cells.drop (placeT was i).2) hf hp.2 oqz oqz;rw [newP_app,newP_app,newP_no (l:=was.take _) λ q hq=>(hw q (List.mem_of_mem_take hq)).2,newP_no (l:=was.drop _) λ q hq=>(hw q (List.mem_of_mem_drop hq)).2]
    refine ⟨by omega, ?_⟩;rw [List.length_append,List.length_append,List.length_take,List.length_drop]
    omega
theorem del_new {i n:Nat}:∀{l:List Prt} {at_:Nat},(∀p∈l,p.blk≠-1)->newP (delP i n l at_)=0
  |[],_,_=>rfl
  |p::l,at_,h=>by
    unfold delP
    rw [newP_app,del_new λ q hq=>h q (List.mem_cons_of_mem _ hq)]
    split
    . rw [newP_one,if_neg (h p (List.mem_cons_self ..))]
    rfl
def freeN (n:Nat)(T:WkT):Nat:=(List.range n).countP (freeB T)
theorem free_take (T:WkT)(b c:Nat):freeB (T.take b) c=(freeB T c&& !decide (c=b)):=by
  show (!T.lv c&& !(updG T.tk b true c))=(!T.lv c&& !T.tk c&& !decide (c=b))
  unfold updG
  by_cases h:c=b
  . simp [h]
  simp [h]
theorem freeN_take {n b:Nat}{T:WkT}(hb:b<n)(hf:freeB T b=true):freeN n (T.take b)+1=freeN n T:=by
  unfold freeN
  have h1:(List.range n).countP (freeB T)=((List.range n).filter (freeB T)).length:=List.countP_eq_length_filter
  have h2:(List.range n).countP (freeB (T.take b))=(((List.range n).filter (freeB T)).filter λ c=> !decide (c=b)).length:=by
    rw [List.countP_eq_length_filter,List.filter_filter]
    refine congrArg (λ f=>((List.range n).filter f).length) (funext λ c=> ?_);rw [free_take,Bool.and_comm]
  have hm:b∈(List.range n).filter (freeB T):=List.mem_filter.2 ⟨List.mem_range.2 hb,hf⟩;have hnd:((List.range n).filter (freeB T)).Nodup:=(List.nodup_range).sublist List.filter_sublist
  have h3:(((List.range n).filter (freeB T)).filter λ c=> !decide (c=b))=((List.range n).filter (freeB T)).erase b:=by
    rw [hnd.erase_eq_filter]
    refine congrArg (λ f=>((List.range n).filter (freeB T)).filter f) (funext λ c=> ?_)
    by_cases h:c=b<;>simp [h]
  rw [h1,h2,h3,List.length_erase_of_mem hm]
  have:=List.length_pos_of_mem hm
  omega
theorem takeP_room {n:Nat}:∀{l:List Prt} {T:WkT},newP l<=freeN n T->(takeP n l T).2.1=0
  |[],_,_=>rfl
  |p::l,T,h=>by
    rw [newP_cons] at h
    unfold takeP
    by_cases hb:p.blk= -1
    . rw [if_pos hb] at h
      rw [if_pos hb]
      have hs:∃b,b<n/\ freeB T b=true/\ takeS n T=(b,0,T.take b):=by
        unfold takeS
        cases hl:leastB T n with
        |none=>
          exfalso
          have:freeN n T=0:=List.countP_eq_zero.2 λ c hc=>by rw [leastB_none.1 hl c (List.mem_range.1 hc)];decide
          omega
        |some b=>
          obtain ⟨h1,h2,_⟩:=leastB_some.1 hl;exact ⟨b,h1,h2,rfl⟩
      obtain ⟨b,h1,h2,h3⟩:=hs;rw [h3,if_pos rfl]
      have:=freeN_take h1 h2
      show (takeP n l (T.take b)).2.1=0
      exact takeP_room oqz
    rw [if_neg hb] at h
    rw [if_neg hb]
    exact takeP_room oqz
theorem freeN_room {n:Nat}{T:WkT}{L:List Nat}(hl:∀b,T.lv b=false)(h:∀b,usedB T b=true->b∈L):n<=freeN n T+L.length:=by
  unfold freeN
  have h1:(List.range n).countP (freeB T)+(List.range n).countP (λ b=> !freeB T b)=n:=by
    have:=List.length_eq_countP_add_countP (freeB T) (l:=List.range n);rw [List.length_range] at this
    rw [show (List.range n).countP (λ b=> !freeB T b)=(List.range n).countP (λ a=>decide (¬freeB T a=true)) from congrArg (λ f=>(List.range n).countP f) (funext λ a=>by cases freeB T a<;>rfl)]
    omega
  have h2:(List.range n).countP (λ b=> !freeB T b)<=L.length:=by
    rw [List.countP_eq_length_filter]
    refine List.Nodup.length_le_of_subset ((List.nodup_range).sublist List.filter_sublist) λ b hb=>h b ?_
    have h3:=(List.mem_filter.1 hb).2
    unfold freeB at h3
    unfold usedB
    rw [hl b] at h3 ⊢
    cases h4:T.tk b
    . rw [h4] at h3;cases h3
    rfl
  omega
def pln15 (n ba cell:Nat)(s:DevS)(lst:List (Nat×List (List Nat)))(plan:List Prt)(T:WkT):Nat×Int×WkT:=
  if (takeP n (settleS (fillT cell) plan) T).2.1=0 then
    (refP (takeP n (settleS (fillT cell) plan) T).1,0,writeP ba cell s (takeP n (settleS (fillT cell) plan) T).1 (takeP n (settleS (fillT cell) plan) T).1.length (giveP ((takeP n (settleS (fillT cell) plan) T).1.map (·.blk)) (lst.map (·.1)) (takeP n (settleS (fillT cell) plan) T).2.2))
  else (0,(takeP n (settleS (fillT cell) plan) T).2.1,(takeP n (settleS (fillT cell) plan) T).2.2)
def FrT (f:TF):Prop:=∀a v q,f a=some (v,q)->q=true
theorem takeP_lt {n:Nat}:∀{l:List Prt} {T:WkT},(∀b,usedB T b=true->b<n)->∀b,usedB (takeP n l T).2.2 b=true->b<n
  |[],_,h=>h
  |p::l,T,h=>by
    unfold takeP
    split
    . split
      . rename_i h1
        obtain ⟨h2,h3,h4⟩:=takeS_0 h1;refine takeP_lt (l:=l) λ b hb=> ?_
        rw [h4,used_take] at hb
        by_cases e:b=(takeS n T).1
        . rw [e];exact h3
        exact h b (by simpa [e] using hb)
      exact h
    exact takeP_lt (l:=l) h
def InT (ba n:Nat)(f:TF):Prop:=∀a,f a≠none->ba<=a/\ a<ba+256*n
structure KpT (n ba cell:Nat) (s:DevS) (T:WkT) (ob ref:Nat) (lst:List (Nat×List (List Nat))):Prop where
  tbl:Tbl (usedB T) (conB T s ba) cell ref lst
  us:∀b,usedB T b=(decide (b∈lst.map (·.1))||decide (b=ob))
  no:ob∉lst.map (·.1)
  lt:∀b,usedB T b=true->b<n
  lv:T.lv=g0
  fr:FrT T.f
  inn:InT ba n T.f
theorem KpT.dj {n ba cell:Nat}{s:DevS}{T:WkT}{ob ref:Nat}{lst:List (Nat×List (List Nat))}(h:KpT n ba cell s T ob ref lst):DjT T:=λ b _=>by rw [h.lv];rfl
theorem settle_flat_nil {fill:Nat}{l:List Prt}:flatP (settleS fill l)=flatP l:=by
  have:=settle_flat (fill:=fill) l []
  unfold settleS;rw [this];rfl
def del15 (n ba cell:Nat)(s:DevS)(ref:Nat)(lst:List (Nat×List (List Nat)))(i k:Nat)(T:WkT):Nat×Int×WkT:=if k=0 then (ref,0,T) else pln15 n ba cell s lst (delP i k (asP lst) 0) T
def ins15 (n ba cell:Nat)(s:DevS)(ref:Nat)(lst:List (Nat×List (List Nat)))(i:Nat)(ins:List (List Nat))(T:WkT):Nat×Int×WkT:=if ins.length=0 then (ref,0,T) else pln15 n ba cell s lst (insP (fillT cell) (asP lst) i ins) T
section
variable {n ba cell:Nat} {s:DevS} {T:WkT} {ob ref:Nat} {lst:List (Nat×List (List Nat))}
theorem KpT.cells (h:KpT n ba cell s T ob ref lst):∀x∈flatP (asP lst),x.length=cell:=λ x hx=>by
  obtain ⟨p,hp,hx⟩:=List.mem_flatMap.1 hx;exact ((tbl_facts h.tbl).1 p hp).2.1 x hx
theorem asP_neg:∀p∈asP lst,p.blk≠-1:=λ p hp=>by
  obtain ⟨x,_,rfl⟩:=List.mem_map.1 hp
  show ((x.1:Nat):Int)≠-1
  omega
end
theorem tbl_congr {u u':Nat->Bool}{c c':Nat->List Nat}{cell ref:Nat}{l:List (Nat×List (List Nat))}(h:Tbl u c cell ref l)(hu:∀b∈l.map (·.1),u' b=true)(hc:∀b∈l.map (·.1),c' b=c b):Tbl u' c' cell ref l:=by
  induction h with
  |nil=>exact .nil
  | @cons b next cs l hu0 hc0 h1 h2 hl hn hs h ih=>
    rw [List.map_cons] at hu hc
    exact .cons (hu b (List.mem_cons_self ..)) ((hc b (List.mem_cons_self ..)).trans hc0) h1 h2 hl hn hs (ih (λ x hx=>hu x (List.mem_cons_of_mem _ hx)) λ x hx=>hc x (List.mem_cons_of_mem _ hx))
structure KpL (n ba cell:Nat) (s:DevS) (T:WkT) (OB:List Nat) (ref:Nat) (lst:List (Nat×List (List Nat))):Prop where
  tbl:Tbl (usedB T) (conB T s ba) cell ref lst
  us:∀b,usedB T b=(decide (b∈lst.map (·.1))||decide (b∈OB))
  no:∀b∈OB,b∉lst.map (·.1)
  lt:∀b,usedB T b=true->b<n
  lv:T.lv=g0
theorem KpL.dj {n ba cell:Nat}{s:DevS}{T:WkT}{OB:List Nat}{ref:Nat}{lst:List (Nat×List (List Nat))}(h:KpL n ba cell s T OB ref lst):DjT T:=λ b _=>by rw [h.lv];rfl
theorem kpl_plan {n ba cell:Nat}{s:DevS}{T:WkT}{OB:List Nat}{ref:Nat}{lst:List (Nat×List (List Nat))}{plan:List Prt}(h:KpL n ba cell s T OB ref lst)(hcell:1<=cell/\ cell<=62)(hin:∀b,b<n->ba+256*b+256<=(imgS s).length)(hn:n<4294967295)
    (hok:∀p∈plan,OkP (fillT cell) p) (hce:∀x∈flatP plan,x.length=cell) (hbl:(blksP plan).Sublist (blksP (asP lst))) (hnew:newP plan+lst.length+OB.length<=n):
    ∃l2 T4 lst2,pln15 n ba cell s lst plan T=(refP l2,0,T4)/\ (KpL n ba cell s T4 OB (refP l2) lst2/\ flatP (asP lst2)=flatP plan)/\∀b∈OB,conB T4 s ba b=conB T s ba b:=by
  have hroom:(takeP n (settleS (fillT cell) plan) T).2.1=0:=by
    refine takeP_room ?_;have h1:=settle_new (fill:=fillT cell) plan []
    have h2:=freeN_room (n:=n) (T:=T) (L:=OB++lst.map (·.1)) (λ b=>by rw [h.lv];rfl) λ b hb=>by
      rw [h.us] at hb
      simp only [Bool.or_eq_true,decide_eq_true_eq] at hb
      exact List.mem_append.2 hb.symm
    rw [List.length_append,List.length_map] at h2
    have h3:newP ([]:List Prt)=0:=rfl
    unfold settleS
    omega
  obtain ⟨l2,e,T2,hT⟩:∃l2 e T2,takeP n (settleS (fillT cell) plan) T=(l2,e,T2):=⟨_,_,_,rfl⟩;rw [hT] at hroom
  dsimp only at hroom
  subst hroom
  have hlt2:∀b,usedB T2 b=true->b<n:=by
    have:=takeP_lt (n:=n) (l:=settleS (fillT cell) plan) (T:=T) h.lt;rw [hT] at this;exact this
  have hc:=plan_law hcell h.dj h.tbl h.lt hin hn hok hce hbl hlt2 hT
  have htk:=takeP_ok h.dj (λ p hp hp1=>by
    have h1:p.blk∈blksP (asP lst):=hbl.subset ((settle_blks plan []).subset (blk_mem hp hp1));rw [asP_blks] at h1
    obtain ⟨x,hx,hxe⟩:=List.mem_map.1 h1;have hxe:((x.1:Nat):Int)=p.blk:=hxe;rw [←hxe]
    refine ⟨Int.natCast_nonneg _, ?_⟩;rw [Int.toNat_natCast,h.us]
    simp only [Bool.or_eq_true,decide_eq_true_eq]
    exact .inl (List.mem_map.2 ⟨x,hx,rfl⟩)) hT
  have hno:∀b∈OB,¬((b:Int)∈l2.map (·.blk)):=λ b hb h9=>by
    obtain ⟨p,hp,hpe⟩:=List.mem_map.1 h9;have hpe:p.blk=(b:Int):=hpe
    rcases htk.or_ p hp with ⟨h1,h2⟩|h1
    . have h3:p.blk∈blksP (asP lst):=hbl.subset ((settle_blks plan []).subset (blk_mem h1 h2));rw [asP_blks] at h3
      obtain ⟨x,hx,hxe⟩:=List.mem_map.1 h3;have hxe:((x.1:Nat):Int)=p.blk:=hxe;exact h.no b hb (List.mem_map.2 ⟨x,hx,by omega⟩)
    rw [hpe,Int.toNat_natCast,h.us] at h1
    simp [hb] at h1
  refine ⟨l2,_,l2.map λ p=>(p.blk.toNat,p.cells), ?_,⟨⟨hc.tbl, ?_, ?_, ?_, ?_⟩, ?_⟩,λ b hb=>hc.other b (hno b hb)⟩
  . unfold pln15;rw [hT,if_pos rfl]
  . intro b;rw [hc.us,h.us,List.map_map]
    by_cases hb:(b:Int)∈l2.map (·.blk)
    . have h1:b∈l2.map ((λ x:Nat×List (List Nat)=>x.1) ∘ λ p=>(p.blk.toNat,p.cells)):=by
        obtain ⟨p,hp,hpe⟩:=List.mem_map.1 hb;exact List.mem_map.2 ⟨p,hp,by show p.blk.toNat=b;omega⟩
      simp [hb,h1]
    have h1:¬b∈l2.map ((λ x:Nat×List (List Nat)=>x.1) ∘ λ p=>(p.blk.toNat,p.cells)):=λ h9=>by
      obtain ⟨p,hp,hpe⟩:=List.mem_map.1 h9;have hpe:p.blk.toNat=b:=hpe;exact hb (List.mem_map.2 ⟨p,hp,by have:=(htk.at_ p hp).1;omega⟩)
    rw [decide_eq_false hb,decide_eq_false h1,Bool.or_false,Bool.false_or]
    by_cases hbl2:b∈lst.map (·.1)
    . have:b∉OB:=λ e=>h.no b e hbl2
      simp [hbl2,this]
    simp [hbl2]
  . intro b hb h9;rw [List.map_map] at h9
    obtain ⟨p,hp,hpe⟩:=List.mem_map.1 h9;have hpe:p.blk.toNat=b:=hpe;exact hno b hb (List.mem_map.2 ⟨p,hp,by have:=(htk.at_ p hp).1;omega⟩)
  . intro b hb;rw [hc.us] at hb
    simp only [Bool.or_eq_true,Bool.and_eq_true,decide_eq_true_eq] at hb
    rcases hb with hb|hb
    . exact h.lt b hb.1
    obtain ⟨p,hp,hpe⟩:=List.mem_map.1 hb;have:=(htk.at_ p hp).2;rw [hpe,Int.toNat_natCast] at this
    exact hlt2 b this
  . rw [hc.lv];exact h.lv
  rw [←settle_flat_nil (fill:=fillT cell) (l:=plan),←hc.cells]
  unfold flatP asP
  rw [List.map_map,List.flatMap_map]
  rfl
section
variable {n ba cell:Nat} {s:DevS} {T:WkT} {OB:List Nat} {ref:Nat} {lst:List (Nat×List (List Nat))}
theorem tbl_okp {u:Nat->Bool}{c:Nat->List Nat}(h:Tbl u c cell ref lst):∀p∈asP lst,OkP (fillT cell) p:=λ p hp=>((tbl_facts h).1 p hp).1
theorem tbl_cells {u:Nat->Bool}{c:Nat->List Nat}(h:Tbl u c cell ref lst):∀x∈flatP (asP lst),x.length=cell:=λ x hx=>by
  obtain ⟨p,hp,hx⟩:=List.mem_flatMap.1 hx;exact ((tbl_facts h).1 p hp).2.1 x hx
theorem tbl_one {u:Nat->Bool}{c:Nat->List Nat}(h:Tbl u c cell ref lst)(hf:(flatP (asP lst)).length<=fillT cell):lst.length<=1/\ lst.length<=(flatP (asP lst)).length:=by
  cases h with
  |nil=>exact ⟨Nat.zero_le _,Nat.zero_le _⟩
  | @cons b next cs l hu hc h1 h2 hl hn hs h=>
    have h2:(flatP (asP ((b,cs)::l))).length=cs.length+(flatP (asP l)).length:=by
      unfold asP flatP;rw [List.map_cons,List.flatMap_cons,List.length_append]
    cases l with
    |nil=>simp only [List.length_cons,List.length_nil];omega
    |cons p l=>
      exfalso
      have h3:=hs p rfl
      have h4:(flatP (asP (p::l))).length=p.2.length+(flatP (asP l)).length:=by
        unfold asP flatP;rw [List.map_cons,List.flatMap_cons,List.length_append]
      omega
theorem kpl_del {i k:Nat}(h:KpL n ba cell s T OB ref lst)(hcell:1<=cell/\ cell<=62)(hin:∀b,b<n->ba+256*b+256<=(imgS s).length)(hn:n<4294967295)(hl:lst.length+OB.length<=n)(hi:i+k<=(flatP (asP lst)).length):
    ∃ref2 T4 lst2,del15 n ba cell s ref lst i k T=(ref2,0,T4)/\ KpL n ba cell s T4 OB ref2 lst2/\ flatP (asP lst2)=(flatP (asP lst)).take i++(flatP (asP lst)).drop (i+k)/\∀b∈OB,conB T4 s ba b=conB T s ba b:=by
  unfold del15
  by_cases hk:k=0
  . rw [if_pos hk]
    exact ⟨ref,T,lst,rfl,h,by rw [hk,Nat.add_zero,List.take_append_drop],λ _ _=>rfl⟩
  rw [if_neg hk]
  have hf:=del_flat (i:=i) (n:=k) (l:=asP lst) (at_:=0);rw [Nat.sub_zero,Nat.sub_zero] at hf
  obtain ⟨l2,T4,lst2,h1,⟨h2,h3⟩,h4⟩:=kpl_plan (plan:=delP i k (asP lst) 0) h hcell hin hn (λ p hp=>(del_ok (tbl_okp h.tbl) p hp).1) (λ x hx=>tbl_cells h.tbl x (by
    rw [hf] at hx
    rcases List.mem_append.1 hx with hx|hx
    . exact List.mem_of_mem_take hx
    exact List.mem_of_mem_drop hx)) del_blks (by rw [del_new asP_neg];omega)
  exact ⟨_,T4,lst2,h1,h2,by rw [h3,hf],h4⟩
theorem kpl_ins {i:Nat}{ins:List (List Nat)}(h:KpL n ba cell s T OB ref lst)(hcell:1<=cell/\ cell<=62)(hin:∀b,b<n->ba+256*b+256<=(imgS s).length)(hn:n<4294967295)(hl:lst.length+OB.length+5<=n)(hi:i<=(flatP (asP lst)).length)(hil:ins.length<=20)(hic:∀x∈ins,x.length=cell):
    ∃ref2 T4 lst2,ins15 n ba cell s ref lst i ins T=(ref2,0,T4)/\ KpL n ba cell s T4 OB ref2 lst2/\ flatP (asP lst2)=(flatP (asP lst)).take i++ins++(flatP (asP lst)).drop i/\∀b∈OB,conB T4 s ba b=conB T s ba b:=by
  have hfp:=fill_pos hcell
  unfold ins15
  by_cases hk:ins.length=0
  . rw [if_pos hk]
    obtain rfl:=List.eq_nil_of_length_eq_zero hk;exact ⟨ref,T,lst,rfl,h,by rw [List.append_nil,List.take_append_drop],λ _ _=>rfl⟩
  rw [if_neg hk]
  have hf:=ins_flat (fill:=fillT cell) oqz (was:=asP lst) (ins:=ins) hi;obtain ⟨n1,n2⟩:=ins_new (fill:=fillT cell) (was:=asP lst) (i:=i) (ins:=ins) hfp.1 (λ p hp=>⟨(tbl_okp h.tbl p hp).2,asP_neg p hp⟩) hil
  obtain ⟨l2,T4,lst2,h1,⟨h2,h3⟩,h4⟩:=kpl_plan (plan:=insP (fillT cell) (asP lst) i ins) h hcell hin hn (ins_ok oqz (tbl_okp h.tbl)) (λ x hx=>by
    rw [hf] at hx
    rcases List.mem_append.1 hx with hx|hx
    . rcases List.mem_append.1 hx with hx|hx
      . exact tbl_cells h.tbl x (List.mem_of_mem_take hx)
      exact hic x hx
    exact tbl_cells h.tbl x (List.mem_of_mem_drop hx)) ins_blks oqz
  exact ⟨_,T4,lst2,h1,h2,by rw [h3,hf],h4⟩
end
theorem gives_us {L:List Nat}:∀{T:WkT},T.lv=g0->(L.foldl WkT.give T).lv=g0/\ (∀b,usedB (L.foldl WkT.give T) b=(usedB T b&& !decide (b∈L)))/\∀s ba,conB (L.foldl WkT.give T) s ba=conB T s ba:=by
  induction L with
  |nil=>intro T h;exact ⟨h,λ b=>by simp,λ _ _=>rfl⟩
  |cons x L ih=>
    intro T h;have h1:(T.give x).lv=g0:=(by unfold WkT.give;split<;>exact h);obtain ⟨i1,i2,i3⟩:=ih (T:=T.give x) h1;refine ⟨i1,λ b=> ?_,λ s ba=>by rw [List.foldl_cons,i3,con_give]⟩;rw [List.foldl_cons,i2]
    have hu:∀T':WkT,T'.lv=g0->usedB T' b=T'.tk b:=λ T' h'=>by unfold usedB;rw [h'];simp [g0]
    rw [hu _ h1,hu _ h]
    unfold WkT.give
    by_cases e:b=x
    . subst e
      split
      . simp [updG]
      rename_i h9;simp [h9]
    split
    . simp [updG,e]
    simp [e]
structure HsG (n ba:Nat) (s:DevS) (T:WkT) (r1:Nat) (l1:List (Nat×List (List Nat))) (r2:Nat) (l2:List (Nat×List (List Nat))) (bl:List (Nat×List Nat)):Prop where
  t1:Tbl (usedB T) (conB T s ba) 4 r1 l1
  t2:Tbl (usedB T) (conB T s ba) 4 r2 l2
  bb:∀x∈bl,conB T s ba x.1=blkS 0 x.2/\ 1<=x.2.length/\ x.2.length<=248
  nd:(l1.map (·.1)++(l2.map (·.1)++bl.map (·.1))).Nodup
  us:∀b,usedB T b=decide (b∈l1.map (·.1)++(l2.map (·.1)++bl.map (·.1)))
  lt:∀b,usedB T b=true->b<n
  lv:T.lv=g0
section
variable {n ba r1 r2:Nat} {s:DevS} {T:WkT} {l1 l2:List (Nat×List (List Nat))} {bl:List (Nat×List Nat)}
theorem HsG.swap (h:HsG n ba s T r1 l1 r2 l2 bl):HsG n ba s T r2 l2 r1 l1 bl:=by
  have hp:(l2.map (·.1)++(l1.map (·.1)++bl.map (·.1))).Perm (l1.map (·.1)++(l2.map (·.1)++bl.map (·.1))):=by
    rw [←List.append_assoc,←List.append_assoc]
    exact List.perm_append_comm.append_right _
  exact ⟨h.t2,h.t1,h.bb,hp.nodup_iff.2 h.nd,λ b=>by rw [h.us,decide_eq_decide];exact hp.mem_iff.symm,h.lt,h.lv⟩
theorem HsG.perm {bl2:List (Nat×List Nat)}(h:HsG n ba s T r1 l1 r2 l2 bl)(hp:bl.Perm bl2):HsG n ba s T r1 l1 r2 l2 bl2:=by
  have hq:(l1.map (·.1)++(l2.map (·.1)++bl.map (·.1))).Perm (l1.map (·.1)++(l2.map (·.1)++bl2.map (·.1))):=((hp.map _).append_left _).append_left _;exact ⟨h.t1,h.t2,λ x hx=>h.bb x (hp.mem_iff.2 hx),hq.nodup_iff.1 h.nd,λ b=>by rw [h.us,decide_eq_decide];exact hq.mem_iff,h.lt,h.lv⟩
theorem HsG.kpl (h:HsG n ba s T r1 l1 r2 l2 bl):KpL n ba 4 s T (l2.map (·.1)++bl.map (·.1)) r1 l1:=by
  refine ⟨h.t1,λ b=> ?_,λ b hb h9=> ?_,h.lt,h.lv⟩
  . rw [h.us,←Bool.decide_or,decide_eq_decide];exact List.mem_append
  exact (List.nodup_append.1 h.nd).2.2 b h9 b hb rfl
theorem HsG.upd {T':WkT}{r1':Nat}{l1':List (Nat×List (List Nat))}(h:HsG n ba s T r1 l1 r2 l2 bl)(k:KpL n ba 4 s T' (l2.map (·.1)++bl.map (·.1)) r1' l1')(hc:∀b∈l2.map (·.1)++bl.map (·.1),conB T' s ba b=conB T s ba b):HsG n ba s T' r1' l1' r2 l2 bl:=by
  refine ⟨k.tbl,tbl_congr h.t2 (λ b hb=> ?_) (λ b hb=>hc b (List.mem_append_left _ hb)),λ x hx=> ?_, ?_,λ b=> ?_,k.lt,k.lv⟩
  . rw [k.us];simp only [Bool.or_eq_true,decide_eq_true_eq];exact .inr (List.mem_append_left _ hb)
  . obtain ⟨b1,b2⟩:=h.bb x hx;exact ⟨(hc _ (List.mem_append_right _ (List.mem_map.2 ⟨x,hx,rfl⟩))).trans b1,b2⟩
  . exact List.nodup_append.2 ⟨tbl_nodup k.tbl,(List.nodup_append.1 h.nd).2.1,λ a ha b hb e=>k.no b hb (e▸ha)⟩
  rw [k.us,←Bool.decide_or,decide_eq_decide];exact List.mem_append.symm
theorem HsG.get (h:HsG n ba s T r1 l1 r2 l2 bl){x:Nat×List Nat}(hx:x∈bl):whS (usedB T) (conB T s ba) (x.1+1)=(x.2,[x.1],0):=by
  obtain ⟨b1,b2,b3⟩:=h.bb x hx
  have hu:usedB T x.1=true:=by
    rw [h.us];exact decide_eq_true (List.mem_append_right _ (List.mem_append_right _ (List.mem_map.2 ⟨x,hx,rfl⟩)))
  have hc:=Chn.cons (u:=usedB T) (c:=conB T s ba) (b:=x.1) (next:=0) (d:=x.2) hu b1 b2 b3 (.inl rfl) (by decide) .nil;rw [List.append_nil] at hc
  exact chn_wh hc oqz
theorem HsG.give1 {b1 b2:List (Nat×List Nat)}{x:Nat×List Nat}(h:HsG n ba s T r1 l1 r2 l2 (b1++x::b2)):HsG n ba s ([x.1].foldl WkT.give T) r1 l1 r2 l2 (b1++b2):=by
  have h:=h.perm (List.perm_middle (l₁:=b1) (l₂:=b2) (a:=x));obtain ⟨g1,g2,g3⟩:=gives_us (L:=[x.1]) h.lv
  have hp:(l1.map (·.1)++(l2.map (·.1)++(x::(b1++b2)).map (·.1))).Perm (x.1::(l1.map (·.1)++(l2.map (·.1)++(b1++b2).map (·.1)))):=by
    rw [List.map_cons]
    exact (List.perm_middle.append_left _).trans List.perm_middle
  have hn:=hp.nodup_iff.1 h.nd;obtain ⟨hx,hn⟩:=List.nodup_cons.1 hn
  have hu:∀b,usedB ([x.1].foldl WkT.give T) b=decide (b∈l1.map (·.1)++(l2.map (·.1)++(b1++b2).map (·.1))):=λ b=>by
    have e1:decide (b∈l1.map (·.1)++(l2.map (·.1)++(x::(b1++b2)).map (·.1)))=decide (b∈x.1::(l1.map (·.1)++(l2.map (·.1)++(b1++b2).map (·.1)))):=(by rw [decide_eq_decide];exact hp.mem_iff);rw [g2,h.us,e1]
    by_cases e:b=x.1
    . subst e;rw [decide_eq_true (show x.1∈[x.1] from List.mem_singleton_self _),decide_eq_false hx];simp
    rw [decide_eq_false (show¬b∈[x.1] from λ h9=>e (List.mem_singleton.1 h9)),Bool.not_false,Bool.and_true,decide_eq_decide,List.mem_cons]
    exact ⟨λ h9=>h9.resolve_left e,.inr⟩
  have hg:=λ b=>congrFun (g3 s ba) b
  refine ⟨tbl_congr h.t1 (λ b hb=> ?_) (λ b _=>hg b),tbl_congr h.t2 (λ b hb=> ?_) (λ b _=>hg b),λ y hy=> ?_,hn,hu,λ b hb=>h.lt b ?_,g1⟩
  . rw [hu];exact decide_eq_true (List.mem_append_left _ hb)
  . rw [hu];exact decide_eq_true (List.mem_append_right _ (List.mem_append_left _ hb))
  . obtain ⟨y1,y2⟩:=h.bb y (List.mem_cons_of_mem _ hy);exact ⟨(hg _).trans y1,y2⟩
  rw [g2] at hb;simp only [Bool.and_eq_true] at hb;exact hb.1
theorem HsG.dropt (h:HsG n ba s T r1 l1 r2 l2 bl):HsG n ba s ((l1.map (·.1)).foldl WkT.give T) 0 [] r2 l2 bl:=by
  obtain ⟨g1,g2,g3⟩:=gives_us (L:=l1.map (·.1)) h.lv;have hd:=(List.nodup_append.1 h.nd).2.2
  have hu:∀b,usedB ((l1.map (·.1)).foldl WkT.give T) b=decide (b∈l2.map (·.1)++bl.map (·.1)):=λ b=>by
    rw [g2,h.us]
    by_cases e:b∈l1.map (·.1)
    . rw [decide_eq_true e,decide_eq_false (show¬b∈l2.map (·.1)++bl.map (·.1) from λ h9=>hd b e b h9 rfl)];simp
    rw [decide_eq_false e,Bool.not_false,Bool.and_true,decide_eq_decide,List.mem_append]
    exact ⟨λ h9=>h9.resolve_left e,.inr⟩
  have hg:=λ b=>congrFun (g3 s ba) b
  refine ⟨.nil,tbl_congr h.t2 (λ b hb=> ?_) (λ b _=>hg b),λ y hy=> ?_,(List.nodup_append.1 h.nd).2.1,λ b=>hu b,λ b hb=>h.lt b ?_,g1⟩
  . rw [hu];exact decide_eq_true (List.mem_append_left _ hb)
  . obtain ⟨y1,y2⟩:=h.bb y hy;exact ⟨(hg _).trans y1,y2⟩
  rw [g2] at hb;simp only [Bool.and_eq_true] at hb;exact hb.1
theorem HsG.ref (h:HsG n ba s T r1 l1 r2 l2 bl):r1<=n/\ r2<=n:=by
  refine ⟨?_, ?_⟩
  . have h1:=h.t1
    cases h1 with
    |nil=>exact Nat.zero_le _
    |cons hu=>exact h.lt _ hu
  have h1:=h.t2
  cases h1 with
  |nil=>exact Nat.zero_le _
  |cons hu=>exact h.lt _ hu
theorem HsG.blt (h:HsG n ba s T r1 l1 r2 l2 bl):∀x∈bl,x.1<n:=λ x hx=>h.lt _ (by rw [h.us];exact decide_eq_true (List.mem_append_right _ (List.mem_append_right _ (List.mem_map.2 ⟨x,hx,rfl⟩))))
theorem nblk_1 {k:Nat}(h1:1<=k)(h2:k<=248):nblk k=1:=by unfold nblk;split<;>omega
theorem HsG.put (h:HsG n ba s T r1 l1 r2 l2 bl){xs:List Nat}(h1:1<=xs.length)(h2:xs.length<=248)(hin:∀b,b<n->ba+256*b+256<=(imgS s).length)(hn:n<4294967295)(hl:l1.length+l2.length+bl.length<n):
    ∃b T',putS ba n T xs=(b+1,0,T')/\ HsG n ba s T' r1 l1 r2 l2 (bl++[(b,xs)]):=by
  have hfr:=freeN_room (n:=n) (T:=T) (L:=l1.map (·.1)++(l2.map (·.1)++bl.map (·.1))) (λ b=>by rw [h.lv];rfl) λ b hb=>by
    rw [h.us] at hb;exact of_decide_eq_true hb
  rw [List.length_append,List.length_append,List.length_map,List.length_map,List.length_map] at hfr
  obtain ⟨b,hb⟩:∃b,leastB T n=some b:=by
    cases hlb:leastB T n with
    |some b=>exact ⟨b,rfl⟩
    |none=>
      have:freeN n T=0:=List.countP_eq_zero.2 λ c hc=>by rw [leastB_none.1 hlb c (List.mem_range.1 hc)];decide
      omega
  have htk:takeL n (nblk xs.length) T=([b],T.take b,true):=by
    rw [nblk_1 h1 h2,takeL_some hb (by decide),takeL_zero]
  have hp:=putS_ok (ba:=ba) (n:=n) (T:=T) (s:=xs) oqz htk;have hp:putS ba n T xs=(b+1,0,wrL ba [b] (T.take b) xs):=hp;obtain ⟨_,_,_,_,q5,q6,q7,q8,q9⟩:=put_spec (sd:=s) hp λ c hc=>⟨hin c hc,by omega⟩
  rw [htk] at q5 q6 q9
  obtain ⟨hbn,hbf,_⟩:=leastB_some.1 hb
  have hub:usedB T b=false:=by
    unfold freeB at hbf;unfold usedB
    rw [h.lv] at hbf ⊢
    simp only [Bool.and_eq_true,Bool.not_eq_true'] at hbf
    simp_all [g0]
  have hnm:b∉l1.map (·.1)++(l2.map (·.1)++bl.map (·.1)):=λ h9=>by
    rw [h.us,decide_eq_true h9] at hub;cases hub
  have hcb:∀c,c≠b->conB (wrL ba [b] (T.take b) xs) s ba c=conB T s ba c:=λ c hc=>q9 c (by simpa using hc)
  have hbb:conB (wrL ba [b] (T.take b) xs) s ba b=blkS 0 xs:=by
    show conB ((T.take b).write ba b (blkS 0 xs)) s ba b=_
    rw [con_write (blkS_len h2) (hin b hbn),if_pos rfl]
  have hus:∀c,usedB (wrL ba [b] (T.take b) xs) c=decide (c∈l1.map (·.1)++(l2.map (·.1)++(bl++[(b,xs)]).map (·.1))):=λ c=>by
    rw [wrL_used,used_take]
    show (if c=b then true else usedB T c)=_
    rw [h.us,List.map_append]
    by_cases e:c=b
    . subst e;simp
    simp [e]
  have hp2:(l1.map (·.1)++(l2.map (·.1)++(bl++[(b,xs)]).map (·.1))).Perm (b::(l1.map (·.1)++(l2.map (·.1)++bl.map (·.1)))):=by
    rw [List.map_append]
    show (l1.map (·.1)++(l2.map (·.1)++(bl.map (·.1)++[b]))).Perm _
    rw [←List.append_assoc,←List.append_assoc]
    refine (List.perm_append_singleton _ _).trans ?_;rw [List.append_assoc]
  refine ⟨b,_,hp,⟨tbl_congr h.t1 (λ c hc=> ?_) (λ c hc=>hcb c ?_),tbl_congr h.t2 (λ c hc=> ?_) (λ c hc=>hcb c ?_),λ x hx=> ?_,hp2.nodup_iff.2 (List.nodup_cons.2 ⟨hnm,h.nd⟩),hus,λ c hc=> ?_,by rw [q7];exact h.lv⟩⟩
  . rw [hus];exact decide_eq_true (List.mem_append_left _ hc)
  . rintro rfl;exact hnm (List.mem_append_left _ hc)
  . rw [hus];exact decide_eq_true (List.mem_append_right _ (List.mem_append_left _ hc))
  . rintro rfl;exact hnm (List.mem_append_right _ (List.mem_append_left _ hc))
  . rcases List.mem_append.1 hx with hx|hx
    . obtain ⟨b1,b2⟩:=h.bb x hx;exact ⟨(hcb _ (by rintro e;exact hnm (List.mem_append_right _ (List.mem_append_right _ (List.mem_map.2 ⟨x,hx,e⟩))))).trans b1,b2⟩
    rw [List.mem_singleton] at hx;subst hx;exact ⟨hbb,h1,h2⟩
  rw [wrL_used,used_take] at hc
  by_cases e:c=b
  . rw [e];exact hbn
  exact h.lt c (by simpa [e] using hc)
theorem HsG.del {i k:Nat}(h:HsG n ba s T r1 l1 r2 l2 bl)(hin:∀b,b<n->ba+256*b+256<=(imgS s).length)(hn:n<4294967295)(hl:l1.length+l2.length+bl.length<=n)(hi:i+k<=(flatP (asP l1)).length):
    ∃r1' T' l1',del15 n ba 4 s r1 l1 i k T=(r1',0,T')/\ HsG n ba s T' r1' l1' r2 l2 bl/\ flatP (asP l1')=(flatP (asP l1)).take i++(flatP (asP l1)).drop (i+k):=by
  obtain ⟨r1',T',l1',h1,h2,h3,h4⟩:=kpl_del h.kpl (by decide) hin hn (by rw [List.length_append,List.length_map,List.length_map];omega) hi;exact ⟨r1',T',l1',h1,h.upd h2 h4,h3⟩
theorem HsG.ins {i:Nat}{ins:List (List Nat)}(h:HsG n ba s T r1 l1 r2 l2 bl)(hin:∀b,b<n->ba+256*b+256<=(imgS s).length)(hn:n<4294967295)(hl:l1.length+l2.length+bl.length+5<=n)(hi:i<=(flatP (asP l1)).length)(hil:ins.length<=20)(hic:∀x∈ins,x.length=4):
    ∃r1' T' l1',ins15 n ba 4 s r1 l1 i ins T=(r1',0,T')/\ HsG n ba s T' r1' l1' r2 l2 bl/\ flatP (asP l1')=(flatP (asP l1)).take i++ins++(flatP (asP l1)).drop i:=by
  obtain ⟨r1',T',l1',h1,h2,h3,h4⟩:=kpl_ins h.kpl (by decide) hin hn (by rw [List.length_append,List.length_map,List.length_map];omega) hi hil hic;exact ⟨r1',T',l1',h1,h.upd h2 h4,h3⟩
theorem HsG.taken (h:HsG n ba s T r1 l1 r2 l2 bl)(b:Nat):T.tk b=decide (b∈l1.map (·.1)++(l2.map (·.1)++bl.map (·.1))):=by
  rw [←h.us];unfold usedB;rw [h.lv];simp [g0]
end
def RwOk (Z:SP)(cell:Nat)(vs:List Value)(cs:List (List Nat)):Prop:=vs.length=cs.length/\∀j (h:j<cs.length),∃a c,vs[j]? =some (.slice a cell c)/\ Rs Z a (bys cs[j])
theorem RwOk.left {Z Y:SP}{cell:Nat}{vs:List Value}{cs:List (List Nat)}(h:RwOk Z cell vs cs):RwOk (Z*Y) cell vs cs:=⟨h.1,λ j hj=>let ⟨a,c,h1,h2⟩:=h.2 j hj;⟨a,c,h1,h2.left⟩⟩
theorem rw_nil (Z:SP)(cell:Nat):RwOk Z cell [] []:=⟨rfl,λ j h=>absurd h (Nat.not_lt_zero j)⟩
theorem rw_app {Z:SP}{cell:Nat}{vs ws:List Value}{cs ds:List (List Nat)}(h:RwOk Z cell vs cs)(k:RwOk Z cell ws ds):RwOk Z cell (vs++ws) (cs++ds):=by
  refine ⟨by rw [List.length_append,List.length_append,h.1,k.1],λ j hj=> ?_⟩
  by_cases e:j<cs.length
  . obtain ⟨a,c,h1,h2⟩:=h.2 j e;exact ⟨a,c,by rw [List.getElem?_append_left (by rw [h.1];exact e)];exact h1,by rw [List.getElem_append_left e];exact h2⟩
  have hj2:j-cs.length<ds.length:=(by rw [List.length_append] at hj;omega);obtain ⟨a,c,h1,h2⟩:=k.2 (j-cs.length) hj2;exact ⟨a,c,by rw [List.getElem?_append_right (by rw [h.1];omega),h.1];exact h1,by rw [List.getElem_append_right oqz];exact h2⟩
theorem rw_one {Z:SP}{cell c:Nat}{a:Option Addr}{x:List Nat}(h:Rs Z a (bys x)):RwOk Z cell [.slice a cell c] [x]:=⟨rfl,λ j hj=>by
  obtain rfl:j=0:=by simp at hj;omega
  exact ⟨a,c,rfl,h⟩⟩
theorem rw_take {Z:SP}{cell n:Nat}{vs:List Value}{cs:List (List Nat)}(h:RwOk Z cell vs cs):RwOk Z cell (vs.take n) (cs.take n):=by
  refine ⟨by rw [List.length_take,List.length_take,h.1],λ j hj=> ?_⟩;rw [List.length_take] at hj
  obtain ⟨a,c,h1,h2⟩:=h.2 j oqz;exact ⟨a,c,by rw [List.getElem?_take,if_pos oqz];exact h1,by rw [List.getElem_take];exact h2⟩
theorem rw_drop {Z:SP}{cell n:Nat}{vs:List Value}{cs:List (List Nat)}(h:RwOk Z cell vs cs):RwOk Z cell (vs.drop n) (cs.drop n):=by
  refine ⟨by rw [List.length_drop,List.length_drop,h.1],λ j hj=> ?_⟩;rw [List.length_drop] at hj
  obtain ⟨a,c,h1,h2⟩:=h.2 (n+j) oqz;exact ⟨a,c,by rw [List.getElem?_drop];exact h1,by rw [List.getElem_drop];exact h2⟩
theorem rw_one_all {Z:SP}{cell:Nat}{vs:List Value}{cs:List (List Nat)}(h:RwOk Z cell vs cs):vs.all oneC=true:=List.all_eq_true.2 λ v hv=>by
  obtain ⟨j,hj,rfl⟩:=List.mem_iff_getElem.1 hv;obtain ⟨a,c,h1,_⟩:=h.2 j (by rw [←h.1];exact hj);rw [List.getElem?_eq_getElem hj] at h1
  rw [Option.some.inj h1];rfl
structure PtV where
  a:Option Addr
  c:Nat
  vs:List Value
def PtV.cells (x:PtV)(p:Prt):List Value:=[.int .i64 p.blk,.slice x.a p.cells.length x.c,.bool p.fresh]
structure PtOk (Z:SP) (cell:Nat) (x:PtV) (p:Prt):Prop where
  c:p.cells.length<=x.c
  r:Rs Z x.a x.vs
  w:RwOk Z cell x.vs p.cells
theorem PtOk.left {Z Y:SP}{cell:Nat}{x:PtV}{p:Prt}(h:PtOk Z cell x p):PtOk (Z*Y) cell x p:=⟨h.c,h.r.left,h.w.left⟩
def ptsV (xs:List PtV)(l:List Prt):List Value:=(List.zipWith PtV.cells xs l).flatten
structure PsOk (Z:SP) (cell:Nat) (xs:List PtV) (l:List Prt):Prop where
  len:xs.length=l.length
  ok:∀j (h:j<l.length) (h2:j<xs.length),PtOk Z cell xs[j] l[j]
theorem PsOk.left {Z Y:SP}{cell:Nat}{xs:List PtV}{l:List Prt}(h:PsOk Z cell xs l):PsOk (Z*Y) cell xs l:=⟨h.len,λ j h1 h2=>(h.ok j h1 h2).left⟩
theorem ptsV_len {xs:List PtV}{l:List Prt}(h:xs.length=l.length):(ptsV xs l).length=3*l.length:=by
  unfold ptsV
  induction xs generalizing l with
  |nil=>cases l with|nil=>rfl|cons p l=>simp at h
  |cons x xs ih=>cases l with
    |nil=>simp at h
    |cons p l=>
      rw [List.zipWith_cons_cons,List.flatten_cons,List.length_append,ih (by simpa using h)]
      show 3+_=_
      rw [List.length_cons];omega
theorem ptsV_snoc {xs:List PtV}{l:List Prt}{x:PtV}{p:Prt}(h:xs.length=l.length):ptsV (xs++[x]) (l++[p])=ptsV xs l++x.cells p:=by
  unfold ptsV
  rw [List.zipWith_append h,List.flatten_append]
  simp
theorem ps_snoc {Z:SP}{cell:Nat}{xs:List PtV}{l:List Prt}{x:PtV}{p:Prt}(h:PsOk Z cell xs l)(hp:PtOk Z cell x p):PsOk Z cell (xs++[x]) (l++[p]):=by
  refine ⟨by rw [List.length_append,List.length_append,h.len];rfl,λ j h1 h2=> ?_⟩
  by_cases e:j<l.length
  . rw [List.getElem_append_left (by rw [h.len];exact e),List.getElem_append_left e];exact h.ok j e _
  have e2:j=l.length:=(by simp at h1;omega);subst e2;rw [List.getElem_append_right (by rw [h.len];exact Nat.le_refl _),List.getElem_append_right (Nat.le_refl _)]
  simp [h.len];exact hp
theorem PtV.cells_len (x:PtV)(p:Prt):(x.cells p).length=3:=rfl
theorem ptsV_cons {x:PtV}{xs:List PtV}{p:Prt}{l:List Prt}:ptsV (x::xs) (p::l)=x.cells p++ptsV xs l:=by
  unfold ptsV;rw [List.zipWith_cons_cons,List.flatten_cons]
theorem ptsV_at:∀{xs:List PtV} {l:List Prt} {i:Nat} (h:i<l.length) (h2:i<xs.length),((ptsV xs l).drop (i*3)).take 3=xs[i].cells l[i]
  |x::xs,p::l,0,h,h2=>by
    rw [ptsV_cons,Nat.zero_mul,List.drop_zero]
    exact List.take_left' rfl
  |x::xs,p::l,i+1,h,h2=>by
    rw [ptsV_cons,Nat.succ_mul,Nat.add_comm,List.drop_append,List.drop_of_length_le (by rw [PtV.cells_len];omega),PtV.cells_len,Nat.add_sub_cancel_left,List.nil_append]
    exact ptsV_at (xs:=xs) (l:=l) (i:=i) (by simpa using h) (by simpa using h2)
  |[],_,_,h,h2=>by simp at h2
  |_::_,[],_,h,_=>by simp at h
theorem ptsV_get {xs:List PtV}{l:List Prt}{i j:Nat}(h:i<l.length)(h2:i<xs.length)(hj:j<3):(ptsV xs l)[i*3+j]? =(xs[i].cells l[i])[j]? :=by
  rw [←ptsV_at h h2,List.getElem?_take,if_pos hj,List.getElem?_drop]
theorem ptsV_set:∀{xs:List PtV} {l:List Prt} {i j:Nat} {v:Value} {x:PtV} {p:Prt} (h:i<l.length) (h2:i<xs.length),j<3->(xs[i].cells l[i]).set j v=x.cells p->(ptsV xs l).set (i*3+j) v=ptsV (xs.set i x) (l.set i p)
  |y::xs,q::l,0,j,v,x,p,h,h2,hj,he=>by
    rw [Nat.zero_mul,Nat.zero_add,ptsV_cons,List.set_append_left _ _ (by rw [PtV.cells_len];exact hj)]
    rw [List.set_cons_zero,List.set_cons_zero,ptsV_cons]
    congr 1
  |y::xs,q::l,i+1,j,v,x,p,h,h2,hj,he=>by
    rw [ptsV_cons,List.set_append_right _ _ (by rw [PtV.cells_len];omega),PtV.cells_len,show (i+1)*3+j-3=i*3+j by omega]
    rw [List.set_cons_succ,List.set_cons_succ,ptsV_cons]
    congr 1
    exact ptsV_set (xs:=xs) (l:=l) (by simpa using h) (by simpa using h2) hj he
  |[],_,_,_,_,_,_,h,h2,_,_=>by simp at h2
  |_::_,[],_,_,_,_,_,h,_,_,_=>by simp at h
theorem ps_set {Z:SP}{cell i:Nat}{xs:List PtV}{l:List Prt}{x:PtV}{p:Prt}(h:PsOk Z cell xs l)(hp:PtOk Z cell x p):PsOk Z cell (xs.set i x) (l.set i p):=by
  refine ⟨by rw [List.length_set,List.length_set,h.len],λ j h1 h2=> ?_⟩;rw [List.length_set] at h1 h2
  by_cases e:i=j
  . subst e;rw [List.getElem_set_self,List.getElem_set_self];exact hp
  rw [List.getElem_set_ne e,List.getElem_set_ne e];exact h.ok j h1 h2
theorem ps_app {Z:SP}{cell:Nat}{xs ys:List PtV}{l m:List Prt}(h:PsOk Z cell xs l)(k:PsOk Z cell ys m):PsOk Z cell (xs++ys) (l++m):=by
  refine ⟨by rw [List.length_append,List.length_append,h.len,k.len],λ j h1 h2=> ?_⟩
  by_cases e:j<l.length
  . rw [List.getElem_append_left (by rw [h.len];exact e),List.getElem_append_left e];exact h.ok j e _
  rw [List.getElem_append_right (by rw [h.len];omega),List.getElem_append_right oqz]
  simp only [h.len]
  exact k.ok _ _ _
theorem ptsV_app {xs ys:List PtV}{l m:List Prt}(h:xs.length=l.length):ptsV (xs++ys) (l++m)=ptsV xs l++ptsV ys m:=by
  unfold ptsV
  rw [List.zipWith_append h,List.flatten_append]
theorem ps_nil (Z:SP)(cell:Nat):PsOk Z cell [] []:=⟨rfl,λ j h=>absurd h (Nat.not_lt_zero j)⟩
structure Hcg where
  at_:Int
  o:ByteArray
  n:ByteArray
def Hcg.cells (c:Hcg):List Value:=[.int .i64 c.at_,.string c.o,.string c.n]
structure HcgW (c:Hcg):Prop where
  at_: -9223372036854775808<=c.at_/\ c.at_<=9223372036854775807
  o:c.o.size<=140737488351232
  n:c.n.size<=140737488351232
def mayC (c:Hcg):Bool:=decide (0<=c.at_/\ c.at_<=1048576/\ c.o.size<=4096/\ c.n.size<=4096/\ c.o.toList≠c.n.toList)
def turnC (c:Hcg):Hcg:=⟨c.at_,c.n,c.o⟩
def headC (c:Hcg):List Nat:=le 8 c.at_.toNat++le 4 c.o.size++le 4 c.n.size
def packB (c:Hcg):ByteArray:=sob (headC c)++c.o++c.n
theorem headC_len (c:Hcg):(headC c).length=16:=by unfold headC;simp only [List.length_append,le_length]
attribute [local irreducible] crk crL crc Sl pt ro Dev imgS recS readS recsF rdW rdO rkT Parts rvl recordsS runsL adrF kcl xcl kys runA runsF layF ovF TxA adZ WkA SlB blkS conB
theorem Ze7 {p r:Prop}(k:r)(h:Kq r->p:=by intro k;refine tv (o_fieldAddr (o:=0) underlying23 rfl rfl sz3 rfl) ?_;refine tv (o_load p3 rfl hsqz rfl) ?_;exact k.o):p:=h ⟨k⟩
theorem Zce {p r:Prop}(k:r)(h:Kq r->p:=by intro k;refine tv (o_fieldAddr (o:=1) underlying23 rfl rfl sz9 rfl) ?_;refine tv (o_load p9 rfl hsqz rfl) ?_;exact k.o):p:=h ⟨k⟩
theorem Zcf {p r:Prop}(k:r)(h:Kq r->p:=by intro k;refine tv (o_fieldAddr (o:=2) underlying23 rfl rfl sz9 rfl) ?_;refine tv (o_load p9 rfl hsqz rfl) ?_;exact k.o):p:=h ⟨k⟩
theorem may21_c {A:SP}{c:Hcg}(hc:HcgW c):
    Fn Tryz.prog 72 #[.agg c.cells.toArray] A (λ r B=>r= .bool (mayC c)/\ A=B):=by
  refine fn_enterW func72 rfl ntmps72 (by simp) ?_;obtain ⟨ha,ho,hn⟩:=hc;refine sr ?_;refine tl_x rfl (o_box rfl (l:=c.cells) rfl) ?_;rintro _ _ ⟨b1,rfl,rfl⟩;refine Zeh ?_;refine tc_cut (λ ρ BB=>∃ (bb:Bool),(bb=mayC c)/\ ρ 2= .bool bb/\ Dr BB (A)) ?_ ?_
  . skip
    refine tc_reg ?_;refine Ze7 ?_;refine tl_env (d:=4) (v:= .int .i64 c.at_) (rfl) ?_;refine tv (o_geq rfl rfl) ?_;refine tlm ?_;refine tl_bool (d:=6) rfl (sbq ?_) (sbq ?_)
    . intro h;refine Ze7 ?_;refine tl_env (d:=8) (v:= .int .i64 c.at_) (rfl) ?_;refine Zhh ?_;refine tl_bool (d:=11) rfl (sbq ?_) (sbq ?_)
      . intro h;refine Zce ?_;refine tl_env (d:=13) (v:= .string c.o) (rfl) ?_;refine tv (o_lenS underlying9 rfl) ?_;refine Zhh ?_;refine tl_bool (d:=17) rfl (sbq ?_) (sbq ?_)
        . intro h;refine Zcf ?_;refine tl_env (d:=19) (v:= .string c.n) (rfl) ?_;refine tv (o_lenS underlying9 rfl) ?_;refine Zhh ?_;refine tl_bool (d:=23) rfl (sbq ?_) (sbq ?_)
          . intro h;refine Zce ?_;refine tl_env (d:=25) (v:= .string c.o) (rfl) ?_;refine Zcf ?_;refine tl_env (d:=27) (v:= .string c.n) (rfl) ?_;refine tv (o_nestrB rfl rfl) ?_;refine Ze2 ?_;exact ⟨_,by unfold mayC;first|exact (decide_eq_false (λ h9=>by omega)).symm|(rw [decide_eq_decide];constructor;(intro h9;exact ⟨by omega,by omega,by omega,by omega,h9⟩);exact λ h9=>h9.2.2.2.2),rfl,drqz⟩
          intro h;refine Zgl ?_;refine Zfw ?_;exact ⟨_,by unfold mayC;first|exact (decide_eq_false (λ h9=>by omega)).symm|(rw [decide_eq_decide];constructor;(intro h9;exact ⟨by omega,by omega,by omega,by omega,h9⟩);exact λ h9=>h9.2.2.2.2),rfl,drqz⟩
        intro h;refine Zbk ?_;refine Zbb ?_;refine Zgl ?_;refine Zfw ?_;exact ⟨_,by unfold mayC;first|exact (decide_eq_false (λ h9=>by omega)).symm|(rw [decide_eq_decide];constructor;(intro h9;exact ⟨by omega,by omega,by omega,by omega,h9⟩);exact λ h9=>h9.2.2.2.2),rfl,drqz⟩
      intro h;refine Zbk ?_;refine Zbb ?_;refine Zbk ?_;refine Zbb ?_;refine Zgl ?_;refine Zfw ?_;exact ⟨_,by unfold mayC;first|exact (decide_eq_false (λ h9=>by omega)).symm|(rw [decide_eq_decide];constructor;(intro h9;exact ⟨by omega,by omega,by omega,by omega,h9⟩);exact λ h9=>h9.2.2.2.2),rfl,drqz⟩
    intro h;refine Zc2 ?_;refine Zbb ?_;refine Zbk ?_;refine Zbb ?_;refine Zbk ?_;refine Zbb ?_;refine Zgl ?_;refine Zfw ?_;exact ⟨_,by unfold mayC;first|exact (decide_eq_false (λ h9=>by omega)).symm|(rw [decide_eq_decide];constructor;(intro h9;exact ⟨by omega,by omega,by omega,by omega,h9⟩);exact λ h9=>h9.2.2.2.2),rfl,drqz⟩
  intro ρ B hI;obtain ⟨bb,hj0,hE2,hBA⟩:=hI;refine q_then_n ?_;refine tc_pre hBA.sat ?_;clear hBA;refine te 2 hE2 ?_;refine tc_ret ?_;exact ⟨.bool bb,A,res1 rfl rfl,Dr.sat drqz,by rw [hj0],rfl⟩
theorem Zhr {p r:Prop}(k:r)(h:Kq r->p:=by intro k;refine nq ?_;refine tc_ret ?_;exact k.o):p:=h ⟨k⟩
theorem Turned21_c {A:SP}{c:Hcg}:
    Fn Tryz.prog 18 #[.agg c.cells.toArray] A (λ r B=>r= .agg (turnC c).cells.toArray/\ A=B):=by
  refine fn_enterW func18 rfl ntmps18 (by simp) ?_;refine sr ?_;refine tl_x rfl (o_box rfl (l:=c.cells) rfl) ?_;rintro _ _ ⟨b1,rfl,rfl⟩;refine tl_x rfl (o_alloc (l:=[.int .i64 0,.string ⟨#[]⟩,.string ⟨#[]⟩]) z23 rfl) ?_;rintro _ _ ⟨b2,rfl,rfl⟩;refine nq ?_;refine sr ?_;refine Zcf ?_;refine tl_env (d:=4) (v:= .string c.n) (rfl) ?_;refine Zce ?_;refine tl_env (d:=6) (v:= .string c.o) (rfl) ?_;refine tv (o_fieldAddr (o:=1) underlying23 rfl rfl sz9 rfl) ?_;refine tl_u rfl (o_stU (l':=[.int .i64 c.at_,.string c.n,.string c.n]) rfl upqz sz9 rfl rfl (by show 1<3;decide) rfl) ?_;refine tv (o_fieldAddr (o:=2) underlying23 rfl rfl sz9 rfl) ?_;refine tl_u rfl (o_stU (l':=(turnC c).cells) rfl upqz sz9 rfl rfl (by show 2<3;decide) rfl) ?_;refine nq ?_;refine sr ?_;refine tv (o_loadN (vs:=(turnC c).cells) a23 sz23 rfl hsqz (by exact Nat.le_refl 3) rfl) ?_;refine tl_u rfl (o_stUN (l':=(turnC c).cells) rfl upqz sz23 rfl rfl rfl (by exact Nat.le_refl 3) rfl) ?_;refine Zhr ?_;exact ⟨_,A,resA1 rfl (rv_cell a23 sz23 rfl hsqz (by show 0+3<=3;decide) rfl),Dr.sat drqz,rfl,rfl⟩
theorem Pack21_c {A:SP}{c:Hcg}(hc:HcgW c):
    Fn Tryz.prog 14 #[.agg c.cells.toArray] A (λ r B=>r= .tuple #[.string (if mayC c=true then packB c else ⟨#[]⟩),.int .i64 (if mayC c=true then 0 else 211)]/\ A=B):=by
  refine fn_enterW func14 rfl ntmps14 (by simp) ?_;refine sr ?_;refine tl_x rfl (o_box rfl (l:=c.cells) rfl) ?_;rintro _ _ ⟨b1,rfl,rfl⟩;refine Zm ?_;refine Zfc ?_;refine tv (o_loadN (vs:=c.cells) a23 sz23 rfl hsqz (by exact Nat.le_refl 3) rfl) ?_;refine tl_c rfl (o_call bd72 rfl (may21_c (c:=c) (hc:=hc))) ?_;refine Zb7 ?_;refine nq ?_;refine tc_cond rfl (λ h=> ?_) (λ h=> ?_)
  . have hm:mayC c=false:=(by simpa using h);refine Zfa ?_;exact ⟨.tuple #[.string ⟨#[]⟩,.int .i64 211],A,res2 rfl rfl rfl,Dr.sat drqz,by rw [if_neg (by rw [hm];decide),if_neg (by rw [hm];decide)],rfl⟩
  have hm:mayC c=true:=(by simpa using h);obtain ⟨hm1,hm2,hm3,hm4,hm5⟩:=of_decide_eq_true hm;obtain ⟨q,hq⟩:=Int.eq_ofNat_of_zero_le hm1;have hhl:=headC_len c;have hhd:le 8 q++le 4 c.o.size++le 4 c.n.size=headC c:=(by unfold headC;rw [hq,Int.toNat_natCast]);refine Zgy ?_;refine Ze7 ?_;refine tl_env (d:=9) (v:=(vn q)) (by show Value.int .i64 c.at_=_;rw [hq]) ?_;refine tv (o_conv64 (a:=q) underlying3 underlying141 rfl) ?_;refine tl_env (d:=10) (v:= .int .u64 ((q:Nat):Int)) (congrArg (λ z:Nat=>Value.int .u64 (z:Int)) (Nat.mod_eq_of_lt oqz)) ?_;refine tl_c rfl (o_call bd73 rfl (Put64_c (xs:=[]) (v:=q))) ?_;rintro _ _ ⟨a11,c11,rfl,hc11,rfl⟩;refine tl_env (d:=11) (v:= .slice a11 8 c11) (rfl) ?_;refine Zbu ?_;refine Zce ?_;refine tl_env (d:=14) (v:= .string c.o) (rfl) ?_;refine tv (o_lenS underlying9 rfl) ?_;refine tv (o_conv32 (a:=c.o.size) underlying3 underlying53 rfl) ?_;refine tl_env (d:=16) (v:= .int .u32 ((c.o.size:Nat):Int)) (congrArg (λ z:Nat=>Value.int .u32 (z:Int)) (Nat.mod_eq_of_lt oqz)) ?_;refine tl_c rfl (o_call bd74 rfl (Put32_c (m:=8) (xs:=[]++le 8 q) (v:=c.o.size) (hr:=rs_sl) (hm:=by rw [List.nil_append,le_length]))) ?_;rintro _ _ ⟨a17,c17,rfl,hc17,rfl⟩;refine tl_env (d:=17) (v:= .slice a17 12 c17) (rfl) ?_;refine Zbu ?_;refine Zcf ?_;refine tl_env (d:=20) (v:= .string c.n) (rfl) ?_;refine tv (o_lenS underlying9 rfl) ?_;refine tv (o_conv32 (a:=c.n.size) underlying3 underlying53 rfl) ?_;refine tl_env (d:=22) (v:= .int .u32 ((c.n.size:Nat):Int)) (congrArg (λ z:Nat=>Value.int .u32 (z:Int)) (Nat.mod_eq_of_lt oqz)) ?_;refine tl_c rfl (o_call bd74 rfl (Put32_c (m:=12) (xs:=[]++le 8 q++le 4 c.o.size) (v:=c.n.size) (hr:=rs_sl) (hm:=by simp only [List.nil_append,List.length_append,le_length]))) ?_;rintro _ _ ⟨a23,c23,rfl,hc23,rfl⟩;refine tl_env (d:=23) (v:= .slice a23 16 c23) (rfl) ?_;refine Zbu ?_;refine tv (o_b2s (xs:=[]++le 8 q++le 4 c.o.size++le 4 c.n.size) underlying67 underlying5 underlying9 rfl rs_sl (by simp only [List.nil_append,List.length_append,le_length]) (by decide)) ?_;refine tl_env (d:=25) (v:= .string (sob (headC c))) (by show Value.string (sob ([]++le 8 q++le 4 c.o.size++le 4 c.n.size))=_;rw [List.nil_append,hhd]) ?_;refine Zce ?_;refine tl_env (d:=27) (v:= .string c.o) (rfl) ?_;refine tv (o_sadd rfl rfl (by rw [sobN,hhl];omega)) ?_;refine Zcf ?_;refine tl_env (d:=30) (v:= .string c.n) (rfl) ?_;refine tv (o_sadd rfl rfl (by rw [ByteArray.size_append,sobN,hhl];omega)) ?_;refine Zy ?_;exact ⟨.tuple #[.string (packB c),.int .i64 0],A,res2 rfl rfl rfl,Dr.sat drqz,by rw [if_pos hm,if_pos hm],rfl⟩
end Go.Vl

namespace Go.Vl
open Go Go.Proofs Go.Proofs.Tryz
theorem part_pl {P:Program}{w:World}{t:TypeId}{l:List Value}{i:Nat}{v:Value}(hp:plainE P t=true)(hv:l[i]? =some v):(part t l.toArray i).run P w= .ok v w:=by
  unfold part
  rw [run_bind (run_isAgg_f hp)]
  have h':i<l.length:=(List.getElem?_eq_some_iff.1 hv).1;have h2:l[i]=v:=(List.getElem?_eq_some_iff.1 hv).2
  simp [h',h2,pure]
theorem eqI_run {P:Program}{w:World}{t:TypeId}{ik:IntKind}{a b:Int}(hu:P.underlying t=some (.int ik)):(Op.equalIn 9999 t (.int ik a) (.int ik b)).run P w= .ok (decide (a=b)) w:=by
  show (Op.equalIn (9998+1) t (.int ik a) (.int ik b)).run P w=_
  rw [Op.equalIn,run_bind (run_und hu)]
  simp [pure]
  by_cases h:a=b<;>simp [h]
theorem eqS_run {P:Program}{w:World}{t:TypeId}{a b:ByteArray}(hu:P.underlying t=some .string):(Op.equalIn 9999 t (.string a) (.string b)).run P w= .ok (decide (a=b)) w:=by
  show (Op.equalIn (9998+1) t (.string a) (.string b)).run P w=_
  rw [Op.equalIn,run_bind (run_und hu)]
  simp [pure]
  rw [show (a==b)=(a.data==b.data) from rfl,Bool.eq_iff_iff]
  simp [ByteArray.ext_iff]
theorem eqC_run {P : Program} {t : TypeId} {w : World} {fs : Array Field} {f0 f1 f2 : Field} (hu : P.underlying t = some (.struct fs)) (hfs : fs.toList = [f0, f1, f2]) (hst : P.stoodInHeld t = false) (h0 : f0.name ≠ "_" ∧ f0.offset = 0 ∧ plainE P f0.type = true ∧ P.underlying f0.type = some (.int .i64)) (h1 : f1.name ≠ "_" ∧ f1.offset = 1 ∧ plainE P f1.type = true ∧ P.underlying f1.type = some .string) (h2 : f2.name ≠ "_" ∧ f2.offset = 2 ∧ plainE P f2.type = true ∧ P.underlying f2.type = some .string) (c d : Hcg) :
    (Op.equal t (.agg c.cells.toArray) (.agg d.cells.toArray)).run P w= .ok (decide (c.at_=d.at_)&&(decide (c.o=d.o)&&decide (c.n=d.n))) w:=by
  show (Op.equalIn (9999+1) t _ _).run P w=_
  rw [Op.equalIn,run_bind (run_und hu)]
  simp only []
  rw [run_bind (w':=w) (a:=P) (by rfl),if_neg (by rw [hst];decide)]
  rw [←Array.forIn_toList,hfs]
  have hall':=run_all (P:=P) (w:=w) (λ (f:Field) __s=> 
      if f.name ≠ "_" then do
        let a←part f.type c.cells.toArray f.offset
        let b←part f.type d.cells.toArray f.offset
        let e←Op.equalIn 9999 f.type a b
        if (!e)=true then pure (ForInStep.done (some false,())) else pure (ForInStep.yield (none,()))
      else pure (ForInStep.yield (none,()))) (λ f=>if f.offset=0 then decide (c.at_=d.at_) else if f.offset=1 then decide (c.o=d.o) else decide (c.n=d.n)) [f0,f1,f2] (λ f hf=>by
    simp only [List.mem_cons,List.not_mem_nil,or_false] at hf
    rcases hf with rfl|rfl|rfl
    . obtain ⟨g1,g2,g3,g4⟩:=h0;rw [if_pos g1,g2,run_bind (part_pl g3 (v:= .int .i64 c.at_) rfl),run_bind (part_pl g3 (v:= .int .i64 d.at_) rfl),run_bind (eqI_run g4)]
      cases decide (c.at_=d.at_)<;>rfl
    . obtain ⟨g1,g2,g3,g4⟩:=h1;rw [if_pos g1,g2,run_bind (part_pl g3 (v:= .string c.o) rfl),run_bind (part_pl g3 (v:= .string d.o) rfl),run_bind (eqS_run g4)]
      cases decide (c.o=d.o)<;>rfl
    obtain ⟨g1,g2,g3,g4⟩:=h2;rw [if_pos g1,g2,run_bind (part_pl g3 (v:= .string c.n) rfl),run_bind (part_pl g3 (v:= .string d.n) rfl),run_bind (eqS_run g4)]
    cases decide (c.n=d.n)<;>rfl)
  rw [run_bind hall']
  have e:([f0,f1,f2].all λ f=>if f.offset=0 then decide (c.at_=d.at_) else if f.offset=1 then decide (c.o=d.o) else decide (c.n=d.n))=(decide (c.at_=d.at_)&&(decide (c.o=d.o)&&decide (c.n=d.n))):=by
    simp [h0.2.1,h1.2.1,h2.2.1]
  rw [e]
  cases (decide (c.at_=d.at_)&&(decide (c.o=d.o)&&decide (c.n=d.n)))<;>rfl
theorem o_eqC {P : Program} {n : Nat} {ρ : Env} {A : SP} {dst : Option Tmp} {ty : TypeId} {pos : String} {after : Array Edge} {gd : Option (Nat × Bool)} {t t' : TypeId} {x y : Operand} {fs : Array Field} {f0 f1 f2 : Field} {c d : Hcg} (hu : P.underlying t = some (.struct fs)) (hfs : fs.toList = [f0, f1, f2]) (hst : P.stoodInHeld t = false) (hge : P.eqGuardType P.depth t = false) (h0 : f0.name ≠ "_" ∧ f0.offset = 0 ∧ plainE P f0.type = true ∧ P.underlying f0.type = some (.int .i64)) (h1 : f1.name ≠ "_" ∧ f1.offset = 1 ∧ plainE P f1.type = true ∧ P.underlying f1.type = some .string) (h2 : f2.name ≠ "_" ∧ f2.offset = 2 ∧ plainE P f2.type = true ∧ P.underlying f2.type = some .string)
    (hx:ev n ρ x= .agg c.cells.toArray) (hy:ev n ρ y= .agg d.cells.toArray):
    OpV P n ρ A ⟨dst,.binOp .eql t x y t',ty,pos,after,gd⟩ (.bool (decide (c.at_=d.at_)&&(decide (c.o=d.o)&&decide (c.n=d.n)))):=opv_of λ w=>by
  simp only [execOp,hx,hy]
  rw [run_bind (w':=w) (a:= .bool (decide (c.at_=d.at_)&&(decide (c.o=d.o)&&decide (c.n=d.n))))]
  . rfl
  rw [run_bind (w':=w) (a:=())]
  . show (do pure (Value.bool (←Op.equal t (.agg c.cells.toArray) (.agg d.cells.toArray))):Sem Value).run P w=_
    rw [run_bind (eqC_run hu hfs hst h0 h1 h2 c d)];rfl
  simp [eqGuard,hge,program,bind,Sem.bind,Sem.run,pure]
theorem o_s2bT {P:Program}{n:Nat}{ρ:Env}{A:SP}{dst:Option Tmp}{ty:TypeId}{pos:String}{after:Array Edge}{gd:Option (Nat×Bool)}{s t e:TypeId}{x:Operand}{str:ByteArray}(hs0:P.underlying s=some .string)(ht:P.underlying t=some (.slice e))(he:P.underlying e=some (.int .u8))(hx:ev n ρ x= .string str):
    OpX P n ρ A ⟨dst,.convert s t x,ty,pos,after,gd⟩ (λ v B=>∃b c o,v= .slice (some ⟨b,0,none⟩) str.size c/\ str.size<=c/\ (∀R:SP,Rs (R*pt b o) (some ⟨b,0,none⟩) (bys (sbys str)))/\ B=A*pt b o):=λ g w hs=>by
  obtain ⟨L,hL⟩:∃L,(Go.Lib.bytesCells w e str).toList=L:=⟨_,rfl⟩;have hLa:Go.Lib.bytesCells w e str=L.toArray:=(by rw [←hL]);have hsd:sat g w.drew A:=hs.draw rfl rfl rfl rfl;have hsz:w.drew.heap.size=w.heap.size:=rfl;have h2:=hsd.alloc (cl L e);rw [hsz] at h2
  have hu:Upd (A*pt w.heap.size (cl L e)) w.heap.size (cl L e) (.cells L.toArray e (L.length,L.length+1)) (A*pt w.heap.size (.cells L.toArray e (L.length,L.length+1))):=upd_here
  have hw':Go.Lib.bytesWorld w e str=(w.drew.alloc (cl L e)).freeze ⟨w.heap.size,L.length,none⟩ 1:=by
    unfold Go.Lib.bytesWorld
    rw [hLa];rfl
  have h3:sat g (Go.Lib.bytesWorld w e str) (A*pt w.heap.size (.cells L.toArray e (L.length,L.length+1))):=by
    rw [hw']
    refine hu.sat h2 (λ k=> ?_) rfl rfl rfl
    unfold World.freeze
    rw [if_neg (by decide)]
    show ((w.drew.alloc (cl L e)).heap.modify w.heap.size _)[k]? =_
    rw [Array.getElem?_modify]
    by_cases hk:w.heap.size=k
    . subst hk;rw [if_pos rfl,if_pos rfl,hu.has g _ h2];simp [cl]
    rw [if_neg hk,if_neg (Ne.symm hk)]
  refine ⟨_,Go.Lib.bytesWorld w e str,_, ?_,h3,w.heap.size,_,_,rfl,grownCap_ge w str.size 0 e,λ R=> ?_,rfl⟩
  . simp only [execOp,hx]
    rw [run_bind (Go.Lib.run_convert_string_bytes w s t e str hs0 ht he)]
    rfl
  have hr:=rs_mk (R:=R) (b:=w.heap.size) (l:=L) (E:=e) (fz:=(L.length,L.length+1))
  have hp:L.take str.size=bys (sbys str):=by
    rw [←hL]
    unfold Go.Lib.bytesCells
    rw [Array.toList_append,List.take_left' (by simp)]
    simp [bys,sbys,b8]
  rw [←hp]
  exact hr.sub _
def unpC (s:ByteArray):Hcg×Int:=
  if s.size<16 then (⟨0,⟨#[]⟩,⟨#[]⟩⟩,211)
  else if 1048576<nm (((sbys (s.extract 0 16)).drop 0).take 8)∨4096<nm (((sbys (s.extract 0 16)).drop 8).take 4)∨4096<nm (((sbys (s.extract 0 16)).drop 12).take 4)∨s.size-16≠nm (((sbys (s.extract 0 16)).drop 8).take 4)+nm (((sbys (s.extract 0 16)).drop 12).take 4) then (⟨0,⟨#[]⟩,⟨#[]⟩⟩,211)
  else if (s.extract 16 s.size).extract 0 (nm (((sbys (s.extract 0 16)).drop 8).take 4))=(s.extract 16 s.size).extract (nm (((sbys (s.extract 0 16)).drop 8).take 4)) (s.extract 16 s.size).size then (⟨0,⟨#[]⟩,⟨#[]⟩⟩,211)
  else (⟨((nm (((sbys (s.extract 0 16)).drop 0).take 8):Nat):Int),(s.extract 16 s.size).extract 0 (nm (((sbys (s.extract 0 16)).drop 8).take 4)),(s.extract 16 s.size).extract (nm (((sbys (s.extract 0 16)).drop 8).take 4)) (s.extract 16 s.size).size⟩,0)
def preB (s t:ByteArray):Bool:=decide (t.size<=s.size)&&((s.extract 0 t.size).toList==t.toList)
def fitC (s:ByteArray)(c:Hcg):Bool:=decide (0<=c.at_/\ c.at_<=(s.size:Int))&&preB (s.extract c.at_.toNat s.size) c.o
def appB (s:ByteArray)(c:Hcg):ByteArray:=s.extract 0 c.at_.toNat++c.n++s.extract (c.at_.toNat+c.o.size) s.size
attribute [local irreducible] crk crL crc Sl pt ro Dev imgS recS readS recsF rdW rdO rkT Parts rvl recordsS runsL adrF kcl xcl kys runA runsF layF ovF TxA adZ WkA SlB blkS conB
theorem Ze8 {p r:Prop}(k:r)(h:Kq r->p:=by intro k;refine sr ?_;refine tv (o_bS (l:=[_,_,_]) pv_nil underlying23 z23 (pl23 underlying23) rfl) ?_;exact k.o):p:=h ⟨k⟩
theorem Zhy {p r:Prop}(k:r)(h:Kq r->p:=by intro k;refine Zbd ?_;refine q_then_r ?_;exact k.o):p:=h ⟨k⟩
theorem Unpack21_c {A:SP}{s:ByteArray}(hs:s.size<=140737488351232):
    Fn Tryz.prog 11 #[.string s] A (λ r B=>r= .tuple #[.agg (unpC s).1.cells.toArray,.int .i64 (unpC s).2]/\ A=B):=by
  refine fn_enterW func11 rfl ntmps11 (by simp) ?_;refine sr ?_;refine tl_x rfl (o_alloc (l:=[.int .i64 0,.string ⟨#[]⟩,.string ⟨#[]⟩]) z23 rfl) ?_;rintro _ _ ⟨b2,rfl,rfl⟩;refine Zds ?_;refine tv (o_lenS underlying9 rfl) ?_;refine Zu ?_;refine tc_cond rfl (λ h=> ?_) (λ h=> ?_)
  . have g15:s.size<16:=(by first|omega|(simp at h;omega));refine Ze8 ?_;refine tl_u rfl (o_stUN (l':=[.int .i64 0,.string ⟨#[]⟩,.string ⟨#[]⟩]) rfl upqz sz23 rfl rfl rfl (by exact Nat.le_refl 3) rfl) ?_;refine Zhy ?_;have hu9:unpC s=(⟨0,⟨#[]⟩,⟨#[]⟩⟩,211):=(by unfold unpC;rw [if_pos g15]);exact ⟨_,A,resA2 rfl (rv_cell a23 sz23 rfl hsqz (by show 0+3<=3;decide) rfl) (rv_tmp rfl),Dr.sat drqz,by rw [hu9];rfl,rfl⟩
  have g15:¬s.size<16:=(by first|omega|(simp at h;omega));have hz16:(s.extract 0 16).size=16:=(by rw [ByteArray.size_extract];omega);have hzl:(sbys (s.extract 0 16)).length=16:=(by rw [sbys_len,hz16]);obtain ⟨hs9,hhs⟩:∃hs9,(sbys (s.extract 0 16))=hs9:=⟨_,rfl⟩;have hsb:∀x∈hs9,x<256:=hhs▸sbys_lt
  rw [hhs] at hzl
  obtain ⟨q,hq⟩:∃q,nm ((hs9.drop 0).take 8)=q:=⟨_,rfl⟩;obtain ⟨o9,ho9⟩:∃o9,nm ((hs9.drop 8).take 4)=o9:=⟨_,rfl⟩;obtain ⟨n9,hn9⟩:∃n9,nm ((hs9.drop 12).take 4)=n9:=⟨_,rfl⟩;have hqb:q<18446744073709551616:=(by have h1:=nm_lt ((hs9.drop 0).take 8) λ x hx=>hsb x (List.mem_of_mem_drop (List.mem_of_mem_take hx));rw [hq,List.length_take,List.length_drop,hzl] at h1;exact h1);have hob:o9<4294967296:=(by have h1:=nm_lt ((hs9.drop 8).take 4) λ x hx=>hsb x (List.mem_of_mem_drop (List.mem_of_mem_take hx));rw [ho9,List.length_take,List.length_drop,hzl] at h1;exact h1);have hnb:n9<4294967296:=(by have h1:=nm_lt ((hs9.drop 12).take 4) λ x hx=>hsb x (List.mem_of_mem_drop (List.mem_of_mem_take hx));rw [hn9,List.length_take,List.length_drop,hzl] at h1;exact h1);obtain ⟨rr,hrr⟩:∃rr,s.extract 16 s.size=rr:=⟨_,rfl⟩;have hrs:rr.size=s.size-16:=(by rw [←hrr,ByteArray.size_extract];omega);refine Zb9 ?_;refine tv (o_sliceS (l:=0) (h:=16) underlying9 rfl bnd_none (bnd_nat rfl) oqz oqz) ?_;refine tl_x rfl (o_s2bT (str:=s.extract 0 16) underlying9 underlying67 underlying5 rfl) ?_;rintro _ _ ⟨b19,c19,o19,rfl,hc19,hr19,rfl⟩;rw [hz16] at hc19 ⊢
  rw [hhs] at hr19
  refine Zbu ?_;refine tl_c rfl (o_call bd67 rfl (Take64_c (p:=0) (xs:=hs9) (m:=16) (hr:=hr19 _) (hb:=hsb) (hm:=hzl))) ?_;refine Zdu ?_;refine tl_env (d:=23) (v:= .int .u64 ((q:Nat):Int)) (by show Value.int .u64 ((nm ((hs9.drop 0).take 8):Nat):Int)=_;rw [hq]) ?_;refine Zfq ?_;refine tl_c rfl (o_call bd68 rfl (Take32_c (p:=8) (xs:=hs9) (m:=16) (hr:=hr19 _) (hb:=hsb) (hm:=hzl))) ?_;refine Zdu ?_;refine tl_env (d:=28) (v:= .int .u32 ((o9:Nat):Int)) (by show Value.int .u32 ((nm ((hs9.drop 8).take 4):Nat):Int)=_;rw [ho9]) ?_;refine Zfq ?_;refine tl_c rfl (o_call bd68 rfl (Take32_c (p:=12) (xs:=hs9) (m:=16) (hr:=hr19 _) (hb:=hsb) (hm:=hzl))) ?_;refine Zdu ?_;refine tl_env (d:=33) (v:= .int .u32 ((n9:Nat):Int)) (by show Value.int .u32 ((nm ((hs9.drop 12).take 4):Nat):Int)=_;rw [hn9]) ?_;refine Zfq ?_;refine tv (o_sliceS (l:=16) (h:=s.size) underlying9 rfl (bnd_nat rfl) bnd_none oqz oqz) ?_;refine tl_env (d:=36) (v:= .string rr) (by show Value.string (s.extract 16 s.size)=_;rw [hrr]) ?_;refine Za ?_;refine Zb1 ?_;refine tc_cut (λ ρ BB=>∃ (bb:Bool),(bb=decide (1048576<q∨4096<o9∨4096<n9∨s.size-16≠o9+n9))/\ ρ 55= .bool bb/\ ρ 2=(pz b2)/\ ρ 5= .int .u64 ((q:Nat):Int)/\ ρ 7= .int .u32 ((o9:Nat):Int)/\ ρ 11= .string rr/\ Dr BB (A*pt b2 (cl [.int .i64 0,.string ⟨#[]⟩,.string ⟨#[]⟩] 23))) ?_ ?_
  . skip
    refine Zbq ?_;refine tv (o_gtr rfl rfl) ?_;refine tlm ?_;refine tl_bool (d:=39) rfl (sbq ?_) (sbq ?_)
    . intro h;refine Zp ?_;refine Z4 ?_;refine Zp ?_;refine Zdx ?_;refine Zc2 ?_;refine Zbg ?_;exact ⟨_,by first|exact (decide_eq_true oqz).symm|exact (decide_eq_false oqz).symm|(rw [decide_eq_decide];omega),rfl,rfl,rfl,rfl,rfl,drqz⟩
    intro h;refine tlm ?_;refine Zdy ?_;refine tl_bool (d:=43) rfl (sbq ?_) (sbq ?_)
    . intro h;refine Zp ?_;refine Zdx ?_;refine Zc2 ?_;refine Zbg ?_;exact ⟨_,by first|exact (decide_eq_true oqz).symm|exact (decide_eq_false oqz).symm|(rw [decide_eq_decide];omega),rfl,rfl,rfl,rfl,rfl,drqz⟩
    intro h;refine tlm ?_;refine Zdy ?_;refine tl_bool (d:=47) rfl (sbq ?_) (sbq ?_)
    . intro h;refine Zbk ?_;refine Zc2 ?_;refine Zbg ?_;exact ⟨_,by first|exact (decide_eq_true oqz).symm|exact (decide_eq_false oqz).symm|(rw [decide_eq_decide];omega),rfl,rfl,rfl,rfl,rfl,drqz⟩
    intro h;refine Zfm ?_;refine Zv ?_;refine tv (o_addN rfl rfl rfl (by show o9+n9<4294967296;omega)) ?_;refine tv (o_convI (a:=((o9+n9:Nat):Int)) underlying53 underlying3 rfl (wrap_i64 oqz)) ?_;refine tv (o_nei rfl rfl) ?_;refine Zbx ?_;exact ⟨_,by first|exact (decide_eq_true oqz).symm|exact (decide_eq_false oqz).symm|(rw [decide_eq_decide];omega),rfl,rfl,rfl,rfl,rfl,drqz⟩
  intro ρ B hI;obtain ⟨bb,hbb0,hE55,hE2,hE5,hE7,hE11,hBA⟩:=hI;refine q_then_n ?_;refine tc_pre hBA.sat ?_;clear hBA;refine te 55 hE55 ?_;refine te 2 hE2 ?_;refine te 5 hE5 ?_;refine te 7 hE7 ?_;refine te 11 hE11 ?_;refine tc_cond rfl (λ h=> ?_) (λ h=> ?_)
  . have g55:1048576<q∨4096<o9∨4096<n9∨s.size-16≠o9+n9:=(by rw [h] at hbb0;exact of_decide_eq_true hbb0.symm);refine Ze8 ?_;refine tl_u rfl (o_stUN (l':=[.int .i64 0,.string ⟨#[]⟩,.string ⟨#[]⟩]) rfl upqz sz23 rfl rfl rfl (by exact Nat.le_refl 3) rfl) ?_;refine Zhy ?_;have hu9:unpC s=(⟨0,⟨#[]⟩,⟨#[]⟩⟩,211):=(by unfold unpC;rw [if_neg g15,hhs,hq,ho9,hn9,if_pos g55]);exact ⟨_,A,resA2 rfl (rv_cell a23 sz23 rfl hsqz (by show 0+3<=3;decide) rfl) (rv_tmp rfl),Dr.sat drqz,by rw [hu9];rfl,rfl⟩
  have g55:¬(1048576<q∨4096<o9∨4096<n9∨s.size-16≠o9+n9):=(by rw [h] at hbb0;exact of_decide_eq_false hbb0.symm);refine Zdv ?_;refine tc_regh mo dr_refl ?_
  show TH _ _ _ _ _ 11 (Array.replicate 11 false) _ _
  refine tm 0 rfl kqz rfl (o_move wqz) ?_;refine tm 1 rfl kqz rfl (o_convI (a:=((q:Nat):Int)) underlying141 underlying3 rfl (wrap_i64 oqz)) ?_;refine Zc9 ?_;refine tm 4 rfl kqz rfl (o_sliceS (l:=0) (h:=o9) underlying9 rfl bnd_none (bnd_nat rfl) oqz oqz) ?_;refine Zgs ?_;refine tm 7 rfl kqz rfl (o_sliceS (l:=o9) (h:=rr.size) underlying9 rfl (bnd_nat rfl) bnd_none oqz oqz) ?_;refine tm 8 rfl kqz rfl (o_bS (l:=[_,_,_]) (pv_cons wqz (pv_cons wqz (pv_cons wqz pv_nil))) underlying23 z23 (pl23 underlying23) rfl) ?_;refine th_one (i:=9) kqz ?_;refine oh_x rfl rfl rfl (o_alloc (l:=[.int .i64 0,.string ⟨#[]⟩,.string ⟨#[]⟩]) z23 rfl) ?_;rintro _ _ ⟨b12,rfl,rfl⟩;refine Zhm ?_;refine oh_u rfl rfl rfl (o_stUN (l':=(⟨((q:Nat):Int),rr.extract 0 o9,rr.extract o9 rr.size⟩:Hcg).cells) rfl upqz sz23 rfl rfl rfl (by exact Nat.le_refl 3) rfl) drqz ?_;refine Zbs ?_;refine Zb1 ?_;refine tc_regq mo kqz ?_;refine ql_v rfl (o_loadN (vs:=(⟨((q:Nat):Int),rr.extract 0 o9,rr.extract o9 rr.size⟩:Hcg).cells) a23 sz23 rfl hsqz (by exact Nat.le_refl 3) rfl) ?_;refine ql_v rfl (o_loadN (vs:=(⟨((q:Nat):Int),rr.extract 0 o9,rr.extract o9 rr.size⟩:Hcg).cells) a23 sz23 rfl hsqz (by exact Nat.le_refl 3) rfl) ?_;refine ql_c rfl (λ w=>exec_call bd18 rfl) (Turned21_c (c:=⟨((q:Nat):Int),rr.extract 0 o9,rr.extract o9 rr.size⟩)) ?_;refine ql_v rfl (o_eqC underlying23 rfl kqz kqz ⟨by decide,rfl,p3,underlying3⟩ ⟨by decide,rfl,p9,underlying9⟩ ⟨by decide,rfl,p9,underlying9⟩ rfl rfl) ?_;refine Zd6 ?_;refine tc_cond rfl (λ h=> ?_) (λ h=> ?_)
  . have g69:rr.extract 0 o9=rr.extract o9 rr.size:=(by simp [turnC] at h;exact of_decide_eq_true h.1);refine Ze8 ?_;refine tl_u rfl (o_stUN (l':=[.int .i64 0,.string ⟨#[]⟩,.string ⟨#[]⟩]) rfl upqz sz23 rfl rfl rfl (by exact Nat.le_refl 3) rfl) ?_;refine Zhy ?_;have hu9:unpC s=(⟨0,⟨#[]⟩,⟨#[]⟩⟩,211):=(by unfold unpC;rw [if_neg g15,hhs,hq,ho9,hn9,if_neg g55,hrr,if_pos g69]);exact ⟨_,A,resA2 rfl (rv_cell a23 sz23 rfl hsqz (by show 0+3<=3;decide) rfl) (rv_tmp rfl),Dr.sat drqz,by rw [hu9];rfl,rfl⟩
  have g69:¬rr.extract 0 o9=rr.extract o9 rr.size:=λ h9=>by simp [turnC,h9] at h
  refine Zgy ?_;refine tv (o_loadN (vs:=(⟨((q:Nat):Int),rr.extract 0 o9,rr.extract o9 rr.size⟩:Hcg).cells) a23 sz23 rfl hsqz (by exact Nat.le_refl 3) rfl) ?_;refine tl_u rfl (o_stUN (l':=(⟨((q:Nat):Int),rr.extract 0 o9,rr.extract o9 rr.size⟩:Hcg).cells) rfl upqz sz23 rfl rfl rfl (by exact Nat.le_refl 3) rfl) ?_;refine Zbd ?_;have hu9:unpC s=(⟨((q:Nat):Int),rr.extract 0 o9,rr.extract o9 rr.size⟩,0):=(by unfold unpC;rw [if_neg g15,hhs,hq,ho9,hn9,if_neg g55,hrr,if_neg g69]);exact ⟨_,A,resA2 rfl (rv_cell a23 sz23 rfl hsqz (by show 0+3<=3;decide) rfl) (rv_tmp rfl),Dr.sat drqz,by rw [hu9];rfl,rfl⟩
theorem hasPreL_c {A:SP}{s t:ByteArray}(hs:s.size<=281474976710656)(ht:t.size<=281474976710656):
    Fn Tryz.prog 168 #[.string s,.string t] A (λ r B=>r= .bool (preB s t)/\ A=B):=by
  refine fn_enterW func168 rfl ntmps168 (by simp) ?_;refine Zf9 ?_;refine tc_cut (λ ρ BB=>∃ (bb:Bool),(bb=preB s t)/\ ρ 4= .bool bb/\ Dr BB (A)) ?_ ?_
  . skip
    refine Zbq ?_;refine tv (o_lenS underlying9 rfl) ?_;refine Zfm ?_;refine tv (o_geq rfl rfl) ?_;refine tlm ?_;refine tl_bool (d:=10) rfl (sbq ?_) (sbq ?_)
    . intro h;refine Zv ?_;refine tv (o_lenS underlying9 rfl) ?_;refine tv (o_sliceS (l:=0) (h:=t.size) underlying9 rfl bnd_none (bnd_nat rfl) oqz oqz) ?_;refine tlm ?_;refine tv (o_eqstr rfl rfl) ?_;refine Ze2 ?_;exact ⟨_,by unfold preB;first|(rw [decide_eq_false oqz,Bool.false_and];done)|(rw [decide_eq_true oqz,Bool.true_and];done),rfl,drqz⟩
    intro h;refine Zgi ?_;refine Zfw ?_;exact ⟨_,by unfold preB;first|(rw [decide_eq_false oqz,Bool.false_and];done)|(rw [decide_eq_true oqz,Bool.true_and];done),rfl,drqz⟩
  intro ρ B hI;obtain ⟨bb,hj0,hE4,hBA⟩:=hI;refine q_then_n ?_;refine tc_pre hBA.sat ?_;clear hBA;refine te 4 hE4 ?_;refine tc_ret ?_;exact ⟨.bool bb,A,res1 rfl rfl,Dr.sat drqz,by rw [hj0],rfl⟩
theorem hasPre_c {A:SP}{s t:ByteArray}(hs:s.size<=281474976710656)(ht:t.size<=281474976710656):
    Fn Tryz.prog 78 #[.string s,.string t] A (λ r B=>r= .bool (preB s t)/\ A=B):=by
  refine fn_enterW func78 rfl ntmps78 (by simp) ?_;refine Zs ?_;refine Zbj ?_;refine tl_c rfl (o_call bd168 rfl (hasPreL_c (s:=s) (t:=t) (hs:=hs) (ht:=ht))) ?_;rintro _ _ ⟨rfl,rfl⟩;refine Zbd ?_;exact ⟨.bool (preB s t),A,res1 rfl rfl,Dr.sat drqz,rfl,rfl⟩
theorem Zc1 {p r:Prop}(k:r)(h:Kq r->p:=by intro k;refine ql_v rfl (o_fieldAddr (o:=0) underlying23 rfl rfl sz3 rfl) ?_;refine ql_v rfl (o_load p3 rfl hsqz rfl) ?_;exact k.o):p:=h ⟨k⟩
theorem Zhz {p r:Prop}(k:r)(h:Kq r->p:=by intro k;refine ql_v rfl (o_fieldAddr (o:=1) underlying23 rfl rfl sz9 rfl) ?_;refine ql_v rfl (o_load p9 rfl hsqz rfl) ?_;exact k.o):p:=h ⟨k⟩
theorem Apply21_c {A:SP}{s:ByteArray}{c:Hcg}(hs:s.size<=281474976710656)(hc:HcgW c):
    Fn Tryz.prog 16 #[.string s,.agg c.cells.toArray] A (λ r B=>r= .tuple #[.string (if fitC s c=true then appB s c else ⟨#[]⟩),.int .i64 (if fitC s c=true then 0 else 211)]/\ A=B):=by
  refine fn_enterW func16 rfl ntmps16 (by simp) ?_;obtain ⟨hc1,hc2,hc3⟩:=hc;refine sr ?_;refine tl_x rfl (o_box rfl (l:=c.cells) rfl) ?_;rintro _ _ ⟨b3,rfl,rfl⟩;refine Zm ?_;refine Zb1 ?_;refine tc_cut (λ ρ BB=>∃ (bb:Bool),(bb= !fitC s c)/\ ρ 25= .bool bb/\ ρ 0= .string s/\ ρ 3=(pz b3)/\ Dr BB (A*pt b3 (cl c.cells 23))) ?_ ?_
  . skip
    refine tc_regq mo kqz ?_;refine Zc1 ?_;refine ql_env (d:=7) (v:= .int .i64 c.at_) (rfl) ?_;refine Zhv ?_;refine ql_bool (d:=9) rfl (sbq ?_) (sbq ?_)
    . intro h;refine Zcy ?_;refine ql_skip rfl ?_;refine Zfs ?_;refine Zfy ?_;refine Zei ?_;exact ⟨_,by unfold fitC;first|(rw [decide_eq_false oqz,Bool.false_and];rfl)|(rw [decide_eq_true oqz,Bool.true_and];done),rfl,rfl,rfl,drqz⟩
    intro h;refine Zc1 ?_;refine ql_env (d:=11) (v:= .int .i64 c.at_) (rfl) ?_;refine ql_v rfl (o_move wqz) ?_;refine ql_v rfl (o_lenS underlying9 rfl) ?_;refine ql_v rfl (o_gtr rfl rfl) ?_;refine Zft ?_;refine ql_bool (d:=16) rfl (sbq ?_) (sbq ?_)
    . intro h;refine Zfy ?_;refine Zei ?_;exact ⟨_,by unfold fitC;first|(rw [decide_eq_false oqz,Bool.false_and];rfl)|(rw [decide_eq_true oqz,Bool.true_and];done),rfl,rfl,rfl,drqz⟩
    intro h;refine ql_v rfl (o_move wqz) ?_;refine Zc1 ?_;refine ql_env (d:=19) (v:=(vn c.at_.toNat)) (by show Value.int .i64 c.at_=_;exact congrArg (Value.int .i64) oqz) ?_;refine ql_v rfl (o_sliceS (l:=c.at_.toNat) (h:=s.size) underlying9 rfl (bnd_nat rfl) bnd_none oqz oqz) ?_;refine Zhz ?_;refine ql_env (d:=22) (v:= .string c.o) (rfl) ?_;refine ql_c rfl (λ w=>exec_call bd78 rfl) (hasPre_c (s:=s.extract c.at_.toNat s.size) (t:=c.o) (hs:=by rw [ByteArray.size_extract];omega) (ht:=by omega)) ?_;refine ql_v rfl (o_not rfl) ?_;refine Zg2 ?_;exact ⟨_,by unfold fitC;first|(rw [decide_eq_false oqz,Bool.false_and];rfl)|(rw [decide_eq_true oqz,Bool.true_and];done),rfl,rfl,rfl,drqz⟩
  intro ρ B hI;obtain ⟨bb,hj0,hE25,hE0,hE3,hBA⟩:=hI;refine q_then_n ?_;refine tc_pre hBA.sat ?_;clear hBA;refine te 25 hE25 ?_;refine te 0 hE0 ?_;refine te 3 hE3 ?_;refine tc_cond rfl (λ h=> ?_) (λ h=> ?_)
  . have hf:fitC s c=false:=(by rw [h] at hj0;simpa using hj0.symm);refine Zfa ?_;exact ⟨.tuple #[.string ⟨#[]⟩,.int .i64 211],A,res2 rfl rfl rfl,Dr.sat drqz,by rw [if_neg (by rw [hf];decide),if_neg (by rw [hf];decide)],rfl⟩
  have hf:fitC s c=true:=(by rw [h] at hj0;simpa using hj0.symm);have hf2:=hf
  unfold fitC preB at hf2
  simp only [Bool.and_eq_true,decide_eq_true_eq] at hf2
  obtain ⟨⟨ha1,ha2⟩,ha3,_⟩:=hf2;rw [ByteArray.size_extract] at ha3
  refine Zdv ?_;refine Zgt ?_;refine Zc1 ?_;refine ql_env (d:=28) (v:=(vn c.at_.toNat)) (by show Value.int .i64 c.at_=_;exact congrArg (Value.int .i64) oqz) ?_;refine ql_v rfl (o_sliceS (l:=0) (h:=c.at_.toNat) underlying9 rfl bnd_none (bnd_nat rfl) oqz oqz) ?_;refine ql_v rfl (o_fieldAddr (o:=2) underlying23 rfl rfl sz9 rfl) ?_;refine ql_v rfl (o_load p9 rfl hsqz rfl) ?_;refine ql_env (d:=31) (v:= .string c.n) (rfl) ?_;refine ql_v rfl (o_sadd rfl rfl (by rw [ByteArray.size_extract];omega)) ?_;refine ql_v rfl (o_move wqz) ?_;refine Zc1 ?_;refine ql_env (d:=35) (v:=(vn c.at_.toNat)) (by show Value.int .i64 c.at_=_;exact congrArg (Value.int .i64) oqz) ?_;refine Zhz ?_;refine ql_env (d:=37) (v:= .string c.o) (rfl) ?_;refine ql_v rfl (o_lenS underlying9 rfl) ?_;refine ql_v rfl (o_addI rfl rfl oqz) ?_;refine ql_env (d:=39) (v:=(vn (c.at_.toNat+c.o.size))) (by first|rfl|exact congrArg (Value.int .i64) oqz) ?_;refine ql_v rfl (o_sliceS (l:=c.at_.toNat+c.o.size) (h:=s.size) underlying9 rfl (bnd_nat rfl) bnd_none oqz oqz) ?_;refine ql_v rfl (o_sadd rfl rfl (by rw [ByteArray.size_append,ByteArray.size_extract,ByteArray.size_extract];omega)) ?_;refine ql_v rfl (o_assign wqz) ?_;refine Zej ?_;refine tc_ret ?_;exact ⟨.tuple #[.string (appB s c),.int .i64 0],A,res2 rfl rfl rfl,Dr.sat drqz,by rw [if_pos hf,if_pos hf],rfl⟩
end Go.Vl

namespace Go.Vl
open Go Go.Proofs Go.Proofs.Tryz
theorem sob_sbys (s:ByteArray):sob (sbys s)=s:=by
  unfold sob sbys
  rw [List.map_map]
  have:((λ n=>UInt8.ofNat n) ∘ λ b:UInt8=>b.toNat)=id:=(by funext b;exact UInt8.ofNat_toNat);rw [this,List.map_id]
attribute [local irreducible] crk crL crc Sl pt ro Dev imgS recS readS recsF rdW rdO rkT Parts rvl recordsS runsL adrF kcl xcl kys runA runsF layF ovF TxA adZ WkA SlB blkS conB
end Go.Vl

namespace Go.Vl
open Go Go.Proofs Go.Proofs.Tryz
theorem sbys_app (a b:ByteArray):sbys (a++b)=sbys a++sbys b:=by
  unfold sbys
  rw [ByteArray.data_append,Array.toList_append,List.map_append]
theorem sbys_eq {a b:ByteArray}(h:sbys a=sbys b):a=b:=by rw [←sob_sbys a,h,sob_sbys]
theorem headC_lt (c:Hcg):∀x∈headC c,x<256:=λ x hx=>by
  unfold headC at hx
  rcases List.mem_append.1 hx with hx|hx
  . rcases List.mem_append.1 hx with hx|hx
    . exact le_bytes _ _ _ hx
    exact le_bytes _ _ _ hx
  exact le_bytes _ _ _ hx
theorem sbys_pack (c:Hcg):sbys (packB c)=headC c++(sbys c.o++sbys c.n):=by
  unfold packB
  rw [sbys_app,sbys_app,sobB (headC_lt c),List.append_assoc]
theorem pack_size (c:Hcg):(packB c).size=16+c.o.size+c.n.size:=by
  rw [←sbys_len,sbys_pack,List.length_append,List.length_append,headC_len,sbys_len,sbys_len];omega
theorem mayC_iff {c:Hcg}(h:mayC c=true):(0<=c.at_/\ c.at_<=1048576)/\ (c.o.size<=4096/\ c.n.size<=4096)/\ c.o≠c.n:=by
  obtain ⟨h1,h2,h3,h4,h5⟩:=of_decide_eq_true h;exact ⟨⟨h1,h2⟩,⟨h3,h4⟩,λ e=>h5 (by rw [e])⟩
theorem mayC_w {c:Hcg}(h:mayC c=true):HcgW c:=by
  obtain ⟨h1,h2,_⟩:=mayC_iff h;exact ⟨by omega,by omega,by omega⟩
theorem head_8 (c:Hcg):((headC c).drop 0).take 8=le 8 c.at_.toNat:=by
  unfold headC
  rw [List.drop_zero,List.append_assoc]
  exact List.take_left' (le_length _ _)
theorem head_4 (c:Hcg):((headC c).drop 8).take 4=le 4 c.o.size:=by
  unfold headC
  rw [List.append_assoc,List.drop_left' (le_length _ _)]
  exact List.take_left' (le_length _ _)
theorem head_n (c:Hcg):((headC c).drop 12).take 4=le 4 c.n.size:=by
  unfold headC
  rw [List.drop_left' (by rw [List.length_append,le_length,le_length])]
  exact List.take_of_length_le (by rw [le_length];exact Nat.le_refl _)
theorem unp_pack {c:Hcg}(h:mayC c=true):unpC (packB c)=(c,0):=by
  obtain ⟨⟨h1,h2⟩,⟨h3,h4⟩,h5⟩:=mayC_iff h;have hz:=pack_size c;have hs:=sbys_pack c;have hl:=headC_len c
  have e1:sbys ((packB c).extract 0 16)=headC c:=by
    rw [sbys_ex,hs,List.drop_zero];exact List.take_left' hl
  have e2:sbys ((packB c).extract 16 (packB c).size)=sbys c.o++sbys c.n:=by
    rw [sbys_ex,List.take_of_length_le (by rw [sbys_len];exact Nat.le_refl _),hs];exact List.drop_left' hl
  have n1:nm (((headC c).drop 0).take 8)=c.at_.toNat:=(by rw [head_8,nm_le];exact Nat.mod_eq_of_lt oqz);have n2:nm (((headC c).drop 8).take 4)=c.o.size:=(by rw [head_4,nm_le];exact Nat.mod_eq_of_lt oqz);have n3:nm (((headC c).drop 12).take 4)=c.n.size:=(by rw [head_n,nm_le];exact Nat.mod_eq_of_lt oqz);obtain ⟨rr,hrr⟩:∃rr,(packB c).extract 16 (packB c).size=rr:=⟨_,rfl⟩;rw [hrr] at e2
  have hrs:rr.size=c.o.size+c.n.size:=(by rw [←sbys_len,e2,List.length_append,sbys_len,sbys_len])
  have x1:rr.extract 0 c.o.size=c.o:=sbys_eq (by
    rw [sbys_ex,e2,List.drop_zero];exact List.take_left' (sbys_len _))
  have x2:rr.extract c.o.size rr.size=c.n:=sbys_eq (by
    rw [sbys_ex,List.take_of_length_le (by rw [sbys_len];exact Nat.le_refl _),e2];exact List.drop_left' (sbys_len _))
  unfold unpC
  rw [if_neg oqz,e1,n1,n2,n3,if_neg oqz,hrr,x1,x2,if_neg h5]
  have:((c.at_.toNat:Nat):Int)=c.at_:=(by omega);rw [this]
def refC (x:Nat×Hcg):List Nat:=le 4 (x.1+1)
def blC (x:Nat×Hcg):Nat×List Nat:=(x.1,sbys (packB x.2))
structure HsI (n ba:Nat) (s:DevS) (T:WkT) (r1:Nat) (l1:List (Nat×List (List Nat))) (r2:Nat) (l2:List (Nat×List (List Nat))) (us rs:List (Nat×Hcg)):Prop where
  g:HsG n ba s T r1 l1 r2 l2 ((us++rs).map blC)
  c1:flatP (asP l1)=us.map refC
  c2:flatP (asP l2)=rs.map refC
  ok:∀x∈us++rs,mayC x.2=true/\ (packB x.2).size<=248
def Hen (x:Nat×Hcg):List Value:= .int .u32 ((x.1+1:Nat):Int)::x.2.cells
def hens (l:List (Nat×Hcg)):List Value:=l.flatMap Hen
theorem hen_len (x:Nat×Hcg):(Hen x).length=4:=rfl
theorem hens_len:∀l:List (Nat×Hcg),(hens l).length=l.length*4
  |[]=>rfl
  |x::l=>by
    have h:hens (x::l)=Hen x++hens l:=List.flatMap_cons ..;rw [h,List.length_append,hens_len l,hen_len,List.length_cons];omega
theorem hens_snoc (l:List (Nat×Hcg))(x:Nat×Hcg):hens (l++[x])=hens l++Hen x:=by
  unfold hens;rw [List.flatMap_append];simp
theorem hens_app (l m:List (Nat×Hcg)):hens (l++m)=hens l++hens m:=List.flatMap_append ..
theorem hens_drop:∀ (l:List (Nat×Hcg)) (i:Nat),(hens l).drop (i*4)=hens (l.drop i)
  |[],i=>by simp [hens]
  |x::l,0=>by simp
  |x::l,i+1=>by
    have h:hens (x::l)=Hen x++hens l:=List.flatMap_cons ..;rw [h,List.drop_succ_cons,←hens_drop l i,show (i+1)*4=4+i*4 by omega,←List.drop_drop,List.drop_left' (hen_len x)]
theorem hens_at {l:List (Nat×Hcg)}{i:Nat}(h:i<l.length):((hens l).drop (i*4)).take 4=Hen l[i]:=by
  rw [hens_drop,List.drop_eq_getElem_cons h]
  have e:hens (l[i]::l.drop (i+1))=Hen l[i]++hens (l.drop (i+1)):=List.flatMap_cons ..;rw [e];exact List.take_left' (hen_len _)
theorem hens_one {l:List (Nat×Hcg)}:(hens l).all oneC=true:=by
  refine List.all_eq_true.2 λ v hv=> ?_
  obtain ⟨x,_,hv⟩:=List.mem_flatMap.1 hv
  simp only [Hen,Hcg.cells,List.mem_cons,List.not_mem_nil,or_false] at hv
  rcases hv with rfl|rfl|rfl|rfl<;>rfl
section
variable {n ba r1 r2:Nat} {s:DevS} {T:WkT} {l1 l2:List (Nat×List (List Nat))} {us rs:List (Nat×Hcg)}
theorem HsI.swap (h:HsI n ba s T r1 l1 r2 l2 us rs):HsI n ba s T r2 l2 r1 l1 rs us:=
  ⟨h.g.swap.perm (List.Perm.map _ List.perm_append_comm),h.c2,h.c1,λ x hx=>h.ok x (List.mem_append.2 (List.mem_append.1 hx).symm)⟩
theorem HsI.get (h:HsI n ba s T r1 l1 r2 l2 us rs){x:Nat×Hcg}(hx:x∈us++rs):whS (usedB T) (conB T s ba) (x.1+1)=(sbys (packB x.2),[x.1],0)/\ unpC (packB x.2)=(x.2,0)/\ (packB x.2).size<=248/\ HcgW x.2/\ x.1+1<=n:=
  ⟨h.g.get (x:=blC x) (List.mem_map.2 ⟨x,hx,rfl⟩),unp_pack (h.ok x hx).1,(h.ok x hx).2,mayC_w (h.ok x hx).1,h.g.blt (blC x) (List.mem_map.2 ⟨x,hx,rfl⟩)⟩
theorem HsI.lens (h:HsI n ba s T r1 l1 r2 l2 us rs)(hu:us.length<=16)(hr:rs.length<=16):(l1.length<=1/\ l1.length<=us.length)/\ (l2.length<=1/\ l2.length<=rs.length):=by
  have h1:=tbl_one h.g.t1 (by rw [h.c1,List.length_map];exact Nat.le_trans hu (by decide));have h2:=tbl_one h.g.t2 (by rw [h.c2,List.length_map];exact Nat.le_trans hr (by decide));rw [h.c1,List.length_map] at h1
  rw [h.c2,List.length_map] at h2
  exact ⟨h1,h2⟩
end
theorem fit_iff {t:ByteArray}{c:Hcg}:fitC t c=true↔0<=c.at_/\ c.at_.toNat<=t.size/\ ((sbys t).drop c.at_.toNat).take c.o.size=sbys c.o:=by
  have e1:sbys ((t.extract c.at_.toNat t.size).extract 0 c.o.size)=((sbys t).drop c.at_.toNat).take c.o.size:=by
    rw [sbys_ex,sbys_ex,List.drop_zero,List.take_of_length_le (i:=t.size) (l:=sbys t) (by rw [sbys_len];exact Nat.le_refl _)]
  unfold fitC preB
  simp only [Bool.and_eq_true,decide_eq_true_eq,beq_iff_eq]
  rw [sbys_inj,e1,ByteArray.size_extract]
  constructor
  . rintro ⟨⟨h1,h2⟩,_,h3⟩;exact ⟨h1,by omega,h3⟩
  rintro ⟨h1,h2,h3⟩;have h4:=congrArg List.length h3;rw [List.length_take,List.length_drop,sbys_len,sbys_len] at h4
  exact ⟨⟨h1,by omega⟩,by omega,h3⟩
theorem sbys_appB (t:ByteArray)(c:Hcg):sbys (appB t c)=(sbys t).take c.at_.toNat++(sbys c.n++(sbys t).drop (c.at_.toNat+c.o.size)):=by
  unfold appB
  rw [sbys_app,sbys_app,sbys_ex,sbys_ex,List.drop_zero,List.take_of_length_le (i:=t.size) (l:=sbys t) (by rw [sbys_len];exact Nat.le_refl _),List.append_assoc]
theorem appB_size (t:ByteArray)(c:Hcg):(appB t c).size<=t.size+c.n.size:=by
  rw [←sbys_len,sbys_appB,List.length_append,List.length_append,List.length_take,List.length_drop,sbys_len,sbys_len];omega
theorem fit_back {t:ByteArray}{c:Hcg}(h:fitC t c=true):fitC (appB t c) (turnC c)=true/\ appB (appB t c) (turnC c)=t:=by
  obtain ⟨h1,h2,h3⟩:=fit_iff.1 h;have e:=sbys_appB t c;have hl:((sbys t).take c.at_.toNat).length=c.at_.toNat:=(by rw [List.length_take,sbys_len];omega);have hd:(sbys (appB t c)).drop c.at_.toNat=sbys c.n++(sbys t).drop (c.at_.toNat+c.o.size):=(by rw [e];exact List.drop_left' hl);refine ⟨fit_iff.2 ⟨h1, ?_, ?_⟩,sbys_eq ?_⟩
  . show c.at_.toNat<=(appB t c).size
    rw [←sbys_len,e,List.length_append,hl];omega
  . show ((sbys (appB t c)).drop c.at_.toNat).take c.n.size=sbys c.n
    rw [hd];exact List.take_left' (sbys_len _)
  rw [sbys_appB]
  show (sbys (appB t c)).take c.at_.toNat++(sbys c.o++(sbys (appB t c)).drop (c.at_.toNat+c.n.size))=sbys t
  rw [←List.drop_drop,hd,List.drop_left' (sbys_len _),e,List.take_left' hl,←h3,←List.drop_drop,List.take_append_drop,List.take_append_drop]
theorem o_neC {P : Program} {n : Nat} {ρ : Env} {A : SP} {dst : Option Tmp} {ty : TypeId} {pos : String} {after : Array Edge} {gd : Option (Nat × Bool)} {t t' : TypeId} {x y : Operand} {fs : Array Field} {f0 f1 f2 : Field} {c d : Hcg} (hu : P.underlying t = some (.struct fs)) (hfs : fs.toList = [f0, f1, f2]) (hst : P.stoodInHeld t = false) (hge : P.eqGuardType P.depth t = false) (h0 : f0.name ≠ "_" ∧ f0.offset = 0 ∧ plainE P f0.type = true ∧ P.underlying f0.type = some (.int .i64)) (h1 : f1.name ≠ "_" ∧ f1.offset = 1 ∧ plainE P f1.type = true ∧ P.underlying f1.type = some .string) (h2 : f2.name ≠ "_" ∧ f2.offset = 2 ∧ plainE P f2.type = true ∧ P.underlying f2.type = some .string)
    (hx:ev n ρ x= .agg c.cells.toArray) (hy:ev n ρ y= .agg d.cells.toArray):
    OpV P n ρ A ⟨dst,.binOp .neq t x y t',ty,pos,after,gd⟩ (.bool (!(decide (c.at_=d.at_)&&(decide (c.o=d.o)&&decide (c.n=d.n))))):=opv_of λ w=>by
  simp only [execOp,hx,hy]
  rw [run_bind (w':=w) (a:= .bool (!(decide (c.at_=d.at_)&&(decide (c.o=d.o)&&decide (c.n=d.n)))))]
  . rfl
  rw [run_bind (w':=w) (a:=())]
  . show (do pure (Value.bool (!(←Op.equal t (.agg c.cells.toArray) (.agg d.cells.toArray)))):Sem Value).run P w=_
    rw [run_bind (eqC_run hu hfs hst h0 h1 h2 c d)];rfl
  simp [eqGuard,hge,program,bind,Sem.bind,Sem.run,pure]
structure UdI (ts:List ByteArray) (us rs:List (Nat×Hcg)):Prop where
  len:ts.length=us.length+rs.length+1
  st:∀i x,(us++rs.reverse)[i]? =some x->∃t,ts[i]? =some t/\ fitC t x.2=true/\ ts[i+1]? =some (appB t x.2)
theorem UdI.undo {ts:List ByteArray}{us rs:List (Nat×Hcg)}{x:Nat×Hcg}(h:UdI ts (us++[x]) rs):UdI ts us (rs++[x])/\∃t,ts[us.length]? =some t/\ ts[us.length+1]? =some (appB t x.2)/\ fitC (appB t x.2) (turnC x.2)=true/\ appB (appB t x.2) (turnC x.2)=t:=by
  have he:us++[x]++rs.reverse=us++(rs++[x]).reverse:=(by simp);refine ⟨⟨?_,λ i y hy=>h.st i y (by rw [he];exact hy)⟩, ?_⟩
  . have:=h.len;rw [List.length_append,List.length_singleton] at this
    rw [List.length_append,List.length_singleton];omega
  obtain ⟨t,h1,h2,h3⟩:=h.st us.length x (by simp);obtain ⟨h4,h5⟩:=fit_back h2;exact ⟨t,h1,h3,h4,h5⟩
theorem UdI.redo {ts:List ByteArray}{us rs:List (Nat×Hcg)}{x:Nat×Hcg}(h:UdI ts us (rs++[x])):UdI ts (us++[x]) rs/\∃t,ts[us.length]? =some t/\ ts[us.length+1]? =some (appB t x.2)/\ fitC t x.2=true:=by
  have he:us++[x]++rs.reverse=us++(rs++[x]).reverse:=(by simp);refine ⟨⟨?_,λ i y hy=>h.st i y (by rw [←he];exact hy)⟩, ?_⟩
  . have:=h.len;rw [List.length_append,List.length_singleton] at this
    rw [List.length_append,List.length_singleton];omega
  obtain ⟨t,h1,h2,h3⟩:=h.st us.length x (by rw [←he];simp);exact ⟨t,h1,h3,h2⟩
theorem UdI.push {ts:List ByteArray}{us rs:List (Nat×Hcg)}{t:ByteArray}{c:Hcg}{b:Nat}(h:UdI ts us rs)(ht:ts[us.length]? =some t)(hf:fitC t c=true):UdI (ts.take (us.length+1)++[appB t c]) (us++[(b,c)]) []:=by
  have hl:=h.len;have hlt:(ts.take (us.length+1)).length=us.length+1:=(by rw [List.length_take];omega);refine ⟨by rw [List.length_append,hlt];simp,λ i x hx=> ?_⟩;rw [List.reverse_nil,List.append_nil] at hx
  rcases Nat.lt_or_ge i us.length with h1|h1
  . rw [List.getElem?_append_left h1] at hx
    obtain ⟨t',h2,h3,h4⟩:=h.st i x (by rw [List.getElem?_append_left h1];exact hx);exact ⟨t',by rw [List.getElem?_append_left oqz,List.getElem?_take_of_lt oqz];exact h2,h3,by rw [List.getElem?_append_left oqz,List.getElem?_take_of_lt oqz];exact h4⟩
  rw [List.getElem?_append_right h1] at hx
  have h2:i=us.length:=by
    rcases Nat.eq_or_lt_of_le h1 with h|h
    . exact h.symm
    rw [List.getElem?_eq_none (by simp;omega)] at hx;cases hx
  subst h2;rw [Nat.sub_self] at hx
  cases hx
  refine ⟨t, ?_,hf, ?_⟩
  . rw [List.getElem?_append_left oqz,List.getElem?_take_of_lt oqz];exact ht
  rw [List.getElem?_append_right oqz,hlt,Nat.sub_self];rfl
theorem UdI.tail {t0:ByteArray}{ts:List ByteArray}{u:Nat×Hcg}{us rs:List (Nat×Hcg)}(h:UdI (t0::ts) (u::us) rs):UdI ts us rs:=by
  refine ⟨?_,λ i x hx=> ?_⟩
  . have:=h.len;rw [List.length_cons,List.length_cons] at this;omega
  obtain ⟨t,h1,h2,h3⟩:=h.st (i+1) x (by rw [List.cons_append,List.getElem?_cons_succ];exact hx);rw [List.getElem?_cons_succ] at h1 h3
  exact ⟨t,h1,h2,h3⟩
theorem UdI.pushed {ts:List ByteArray}{us rs:List (Nat×Hcg)}{t:ByteArray}{c:Hcg}{b:Nat}(h:UdI ts us rs)(ht:ts[us.length]? =some t)(hf:fitC t c=true)(h16:us.length<=16):UdI ((ts.take (us.length+1)++[appB t c]).drop (us.length-15)) (us.drop (us.length-15)++[(b,c)]) []:=by
  have h1:=h.push (b:=b) ht hf
  rcases Nat.lt_or_ge us.length 16 with h2|h2
  . rw [show us.length-15=0 by omega,List.drop_zero,List.drop_zero];exact h1
  have h3:us.length=16:=(by omega);rw [h3] at h1 ⊢
  match us,ts,h3,h.len,h1 with
  |u::us,t0::ts,_,_,h1=>exact h1.tail
  |u::us,[],_,h4,_=>rw [List.length_nil] at h4;omega
def PStrL (cs:List Value)(s:ByteArray):Prop:=cs=[.string s]/\ s.size<=140737488351232
theorem rdb_strL {P:Program}{W:World}{t:TypeId}(ht:P.underlying t=some .string):Rdb P W t PStrL:=λ H enc sp hd fu cs d pl h hw=>by
  obtain ⟨s,e,hx,_⟩:=DataW.trod_string ht h;obtain ⟨rfl,rfl⟩:=Prod.mk.inj hx;refine ⟨s,e, ?_⟩;have h9:=hw s.data.toList.length (by simp [DataW.weights])
  unfold reachBytes at h9
  rw [Array.length_toList] at h9
  exact h9
theorem five_ofH {l:List Value}(h:l.length=5):∃a b c d e,l=[a,b,c,d,e]:=by
  match l,h with
  |[a,b,c,d,e],_=>exact ⟨a,b,c,d,e,rfl⟩
def PHcg (cs:List Value)(x:Hcg):Prop:=cs=x.cells/\ HcgW x
structure EdU where
  at_:Int
  out:Int
  inn:ByteArray
  un:Bool
  re:Bool
def EdU.cells (e:EdU):List Value:=[.int .i64 e.at_,.int .i64 e.out,.string e.inn,.bool e.un,.bool e.re]
def edUs (l:List EdU):List Value:=l.flatMap EdU.cells
structure EdUW (e:EdU):Prop where
  at_: -9223372036854775808<=e.at_/\ e.at_<=9223372036854775807
  out: -9223372036854775808<=e.out/\ e.out<=9223372036854775807
  inn:e.inn.size<=140737488351232
theorem edU_at {l:List EdU}{i:Nat}(h:i<l.length):((edUs l).drop (i*5)).take 5=l[i].cells:=fm_at (f:=EdU.cells) (λ _ _=>rfl) h
theorem edU_len (l:List EdU):(edUs l).length=5*l.length:=by
  unfold edUs
  induction l with
  |nil=>rfl
  |cons e l ih=>rw [List.flatMap_cons,List.length_append,ih];show 5+_=_;rw [List.length_cons];omega
theorem rdb_edU (W:World):Rdb Tryz.prog W 95 (λ cs (x:EdU)=>cs=x.cells/\ EdUW x):=λ H enc sp hd fu cs d pl h hw=>by
  obtain ⟨hl,hf⟩:=rdb_fields underlying95 h hw;have hc:Tryz.prog.cellsOf 95=5:=(by kernel_rfl);have hc0:Tryz.prog.cellsOf 3=1:=(by kernel_rfl);have hc2:Tryz.prog.cellsOf 9=1:=(by kernel_rfl);have hc3:Tryz.prog.cellsOf 4=1:=(by kernel_rfl);rw [hc] at hl
  obtain ⟨x,e0,w0⟩:=hf 0 _ rfl (rdb_int underlying3);obtain ⟨y,e1,w1⟩:=hf 1 _ rfl (rdb_int underlying3);obtain ⟨z,e2,w2⟩:=hf 2 _ rfl (rdb_strL underlying9);obtain ⟨u,e3⟩:=hf 3 _ rfl (rdb_bool underlying4);obtain ⟨r,e4⟩:=hf 4 _ rfl (rdb_bool underlying4);obtain ⟨c0,c1,c2,c3,c4,rfl⟩:=five_ofH hl
  unfold PBool at e3 e4
  simp [hc0] at e0 e1
  simp [hc2] at e2
  simp [hc3] at e3 e4
  subst e0 e1 e2 e3 e4;exact ⟨⟨x,y,z,u,r⟩,rfl,⟨i64_wf w0,i64_wf w1,w2⟩⟩
def PEdU (A:SP)(cs:List Value)(l:List EdU):Prop:=∃a c,cs=[.slice a l.length c]/\ l.length<=c/\ Rs A a (edUs l)/\∀x∈l,EdUW x
theorem rdb_edUs (W:World):Rdb Tryz.prog W 84 (PEdU (old W)):=
  (rdb_slice (k:=5) (b:=40) underlying84 kqz kqz (by decide) (rdb_edU W)).mono λ cs xs ⟨a,cap,Cs,e1,hc,hs,hl,hx,hr⟩=>by
    refine ⟨xs,⟨a,cap,e1,hc, ?_,λ x hx'=> ?_⟩⟩
    . rw [show edUs xs=Cs.flatten from (flatG hl (λ i h h'=>(hx i h h').2.1)).symm];exact hr
    obtain ⟨i,hi,rfl⟩:=List.mem_iff_getElem.1 hx';exact (hx i hi oqz).2.2
theorem flat_take {l:List Prt}{i:Nat}(h:i<l.length):(flatP (l.take (i+1))).length=(flatP (l.take i)).length+l[i].cells.length:=by
  rw [List.take_succ_eq_append_getElem h,flatP_app,List.length_append]
  simp [flatP]
theorem flat_take_le (l:List Prt)(i:Nat):(flatP (l.take i)).length<=(flatP l).length:=by
  conv=>rhs;rw [←List.take_append_drop i l,flatP_app,List.length_append]
  omega
theorem find_skip:∀{j:Nat} {l:List Prt} {i:Nat},j<=l.length->(flatP (l.take j)).length<=i->findT l i=(findT (l.drop j) (i-(flatP (l.take j)).length)).map λ x=>(x.1+j,x.2)
  |0,l,i,_,_=>by simp [flatP]
  |j+1,[],i,h,_=>by simp at h
  |j+1,p::l,i,h,hl=>by
    rw [List.take_succ_cons,flatP_cons,List.length_append] at hl ⊢
    rw [List.drop_succ_cons]
    conv=>lhs;unfold findT
    rw [if_neg oqz,find_skip (j:=j) (l:=l) (i:=i-p.cells.length) (by simpa using h) oqz,Option.map_map,show i-p.cells.length-(flatP (l.take j)).length=i-(p.cells.length+(flatP (l.take j)).length) by omega]
    rfl
theorem find_hit {j:Nat}{l:List Prt}{i:Nat}(h:j<l.length)(hl:(flatP (l.take j)).length<=i)(hi:i-(flatP (l.take j)).length<l[j].cells.length):findT l i=some (j,i-(flatP (l.take j)).length):=by
  rw [find_skip (Nat.le_of_lt h) hl,List.drop_eq_getElem_cons h]
  unfold findT
  rw [if_pos hi]
  simp
theorem find_end {l:List Prt}{i:Nat}(h:(flatP l).length<=i):findT l i=none:=by
  rw [find_skip (j:=l.length) (Nat.le_refl _) (by rw [List.take_length];exact h),List.drop_length];rfl
def findR (l:List Prt)(i:Nat):Nat×Nat×Bool:=match findT l i with
  |some (k,n)=>(k,n,true)
  |none=>(0,0,false)
attribute [local irreducible] crk crL crc Sl pt ro Dev imgS recS readS recsF rdW rdO rkT Parts rvl recordsS runsL adrF kcl xcl kys runA runsF layF ovF TxA adZ WkA comS conB rootV ptsV
theorem Fill15_c {A:SP}{cell:Int}(hc: -9223372036854775808<=cell/\ cell<=9223372036854775807):
    Fn Tryz.prog 34 #[.int .i64 cell] A (λ r B=>r= .int .i64 (if 1<=cell/\ cell<=62 then ((fillT cell.toNat:Nat):Int) else 0)/\ A=B):=by
  refine fn_enterW func34 rfl ntmps34 (by simp) ?_;refine Zdd ?_;refine Zc0 ?_;refine tl_bool (d:=5) rfl (sbq ?_) (sbq ?_)
  . intro h;refine Zp ?_;refine tv (o_pick_t rfl wqz) ?_;refine nq ?_;refine tc_cond_t rfl ?_;refine Zf4 ?_;exact ⟨.int .i64 0,A,res1 rfl rfl,λ _ _ h=>h,by rw [if_neg oqz],rfl⟩
  intro h;refine tlm ?_;refine tv (o_gtr rfl rfl) ?_;refine tv (o_pick_f rfl wqz) ?_;refine nq ?_;refine tc_cond rfl (sbq ?_) (λ h=> ?_)
  . intro h;refine Zf4 ?_;exact ⟨.int .i64 0,A,res1 rfl rfl,λ _ _ h=>h,by rw [if_neg oqz],rfl⟩
  have g8:1<=cell/\ cell<=62:=(by first|(simp at h;omega)|omega);obtain ⟨k,rfl⟩:=Int.eq_ofNat_of_zero_le (show 0<=cell by omega);refine Zb9 ?_;refine tv (by first|exact o_quoI rfl rfl oqz|exact o_quo rfl rfl oqz) ?_;refine Zbd ?_;exact ⟨.int .i64 ((248:Int)/((k:Nat):Int)),A,res1 rfl rfl,λ _ _ h=>h,by rw [if_pos g8];unfold fillT;rw [Int.toNat_natCast];rfl,rfl⟩
theorem Zch {p r:Prop}(k:r)(h:Kq r->p:=by intro k;refine Zl ?_;refine tv (o_len underlying198 rfl) ?_;exact k.o):p:=h ⟨k⟩
theorem Zgx {p r:Prop}(k:r)(h:Kq r->p:=by intro k;refine Zch ?_;refine Zb8 ?_;exact k.o):p:=h ⟨k⟩
theorem Zb0 {p r:Prop}(k:r)(h:Kq r->p:=by intro k;refine tv (o_fieldAddr (o:=1) underlying203 rfl rfl sz35 rfl) ?_;refine tv (o_load p35 rfl hsqz rfl) ?_;exact k.o):p:=h ⟨k⟩
theorem count15_c {A:SP}{a:Option Addr}{c:Nat}{xs:List PtV}{l:List Prt}(hl:xs.length=l.length)(hr:Rs A a (ptsV xs l))(hb:l.length<=4194304)(hf:(flatP l).length<=4194304){m:Nat}(hm:l.length=m):
    Fn Tryz.prog 122 #[.slice a m c] A (λ r B=>r= .int .i64 (((flatP l).length:Nat):Int)/\ A=B):=by
  refine fn_enterW func122 rfl ntmps122 (by simp) ?_;subst hm;refine Zs ?_;refine Zs ?_;refine Zgx ?_;refine tc_loop (λ kk ρ BB=>∃ (i:Nat),(i<=l.length)/\ kk=l.length-i/\ ρ 3= .int .i64 (((flatP (l.take i)).length:Nat):Int)/\ ρ 8=(vn i)/\ ρ 6= .slice a l.length c/\ ρ 7=(vn l.length)/\ Dr BB (A)) (m:=l.length-(0)) ?_ ?_
  . exact ⟨0,by omega,rfl,rfl,rfl,rfl,rfl,drqz⟩
  intro k ρ B hI;obtain ⟨i,hp0,hkk1,hE3,hE8,hE6,hE7,hBA⟩:=hI;refine tc_pre hBA.sat ?_;clear hBA;refine te 3 hE3 ?_;refine te 8 hE8 ?_;refine te 6 hE6 ?_;refine te 7 hE7 ?_;refine Zcg ?_;refine tc_cond rfl (λ h=> ?_) (λ h=> ?_)
  . have hi:i<l.length:=(by first|omega|(simp at h;omega));have hi2:i<xs.length:=(by omega);have hft:=flat_take hi;have hfl:=flat_take_le l (i+1);refine Zd5 ?_;refine tv (o_ixP underlying198 sz203 rfl rfl oqz (nn_rs (xs:=ptsV xs l) (by repeat (first|exact hr|apply Rs.left)) (λ _=>by rw [ptsV_len hl];omega))) ?_;refine tv (o_ldPN (vs:=xs[i].cells l[i]) a203 sz203 rfl (by repeat (first|exact hr|apply Rs.left)) (ptsV_at hi hi2) rfl (by decide)) ?_;refine tl_x rfl (o_alloc (l:=[.int .i64 0,.slice none 0 0,.bool false]) z203 rfl) ?_;rintro _ _ ⟨b5,rfl,rfl⟩;refine tl_u rfl (o_stUN (l':=xs[i].cells l[i]) rfl upqz sz203 rfl rfl rfl (by exact Nat.le_refl 3) rfl) ?_;refine nq ?_;refine Zbq ?_;refine Zb0 ?_;refine tv (o_len underlying35 rfl) ?_;refine tv adqz ?_;refine tl_env (d:=16) (v:= .int .i64 (((flatP (l.take (i+1))).length:Nat):Int)) (by rw [hft];first|rfl|exact congrArg (Value.int .i64) oqz) ?_;refine Zep ?_;exact ⟨_,by omega,i+1,by omega,rfl,by rw [flat_take hi];rfl,rfl,rfl,rfl,drqz⟩
  obtain rfl:i=l.length:=by first|omega|(simp at h;omega)
  rw [List.take_length] at*
  refine Zhk ?_;exact ⟨.int .i64 (((flatP l).length:Nat):Int),A,res1 rfl (by first|rfl|(rw [List.take_length];rfl)),Dr.sat drqz,rfl,rfl⟩
theorem find15_c {A:SP}{a:Option Addr}{c i0:Nat}{xs:List PtV}{l:List Prt}(hl:xs.length=l.length)(hr:Rs A a (ptsV xs l))(hb:l.length<=4194304)(hi0:i0<=4194304){m:Nat}(hm:l.length=m):
    Fn Tryz.prog 123 #[.slice a m c,vn i0] A (λ r B=>∃k n b,findR l i0=(k,n,b)/\ r= .tuple #[vn k,vn n,.bool b]/\ A=B):=by
  refine fn_enterW func123 rfl ntmps123 (by simp) ?_;subst hm;refine sr ?_;refine tla ?_;refine Zbo ?_;refine tv (o_lss rfl rfl) ?_;refine Zn ?_;intro h;refine Ze ?_;refine Zgx ?_;refine tc_loop (λ kk ρ BB=>∃ (i:Nat),(i<=l.length)/\ ((flatP (l.take i)).length<=i0)/\ kk=l.length-i/\ ρ 1= .int .i64 ((i0-(flatP (l.take i)).length:Nat):Int)/\ ρ 13=(vn i)/\ ρ 11= .slice a l.length c/\ ρ 12=(vn l.length)/\ Dr BB (A)) (m:=l.length-(0)) ?_ ?_
  . exact ⟨0,Nat.zero_le _,Nat.zero_le _,rfl,rfl,rfl,rfl,rfl,drqz⟩
  intro k ρ B hI;obtain ⟨i,hp0,hp1,hkk1,hE1,hE13,hE11,hE12,hBA⟩:=hI;refine tc_pre hBA.sat ?_;clear hBA;refine te 1 hE1 ?_;refine te 13 hE13 ?_;refine te 11 hE11 ?_;refine te 12 hE12 ?_;refine Zcg ?_;refine tc_cond rfl (λ h=> ?_) (λ h=> ?_)
  . have hi:i<l.length:=(by first|omega|(simp at h;omega));have hi2:i<xs.length:=(by omega);have hft:=flat_take hi;refine Ze9 ?_;refine tv (o_ixP underlying198 sz203 rfl rfl oqz (nn_rs (xs:=ptsV xs l) (by repeat (first|exact hr|apply Rs.left)) (λ _=>by rw [ptsV_len hl];omega))) ?_;refine tv (o_ldPN (vs:=xs[i].cells l[i]) a203 sz203 rfl (by repeat (first|exact hr|apply Rs.left)) (ptsV_at hi hi2) rfl (by decide)) ?_;refine tl_x rfl (o_alloc (l:=[.int .i64 0,.slice none 0 0,.bool false]) z203 rfl) ?_;rintro _ _ ⟨b8,rfl,rfl⟩;refine tla ?_;refine tl_u rfl (o_stUN (l':=xs[i].cells l[i]) rfl upqz sz203 rfl rfl rfl (by exact Nat.le_refl 3) rfl) ?_;refine Zh3 ?_;refine Zb0 ?_;refine tv (o_len underlying35 rfl) ?_;refine Zu ?_;refine tc_cond rfl (λ h=> ?_) (λ h=> ?_)
    . have g22:i0-(flatP (l.take i)).length<l[i].cells.length:=(by first|(have h9:=of_decide_eq_true h;omega)|(simp at h;omega));refine Zbj ?_;refine tla ?_;refine Zct ?_;exact ⟨.tuple #[vn i,.int .i64 ((i0-(flatP (l.take i)).length:Nat):Int),.bool true],A,res3 rfl rfl rfl rfl,Dr.sat drqz,i,_,true,by unfold findR;rw [find_hit hi hp1 g22],rfl,rfl⟩
    have g22:¬i0-(flatP (l.take i)).length<l[i].cells.length:=(by first|(have h9:=of_decide_eq_false h;omega)|(simp at h;omega));refine Ze ?_;refine Zbq ?_;refine Zb0 ?_;refine Zh2 ?_;refine Zep ?_;exact ⟨_,by omega,i+1,by omega,by rw [hft];omega,rfl,by first|rfl|exact congrArg (Value.int .i64) (by rw [hft];omega),rfl,rfl,rfl,drqz⟩
  obtain rfl:i=l.length:=by first|omega|(simp at h;omega)
  rw [List.take_length] at hp1
  refine Zk ?_;refine sr ?_;refine tla ?_;refine Zy ?_;exact ⟨.tuple #[.int .i64 0,.int .i64 0,.bool false],A,res3 rfl rfl rfl rfl,Dr.sat drqz,0,0,false,by unfold findR;rw [find_end hp1],rfl,rfl⟩
theorem Equal_c {A:SP}{a b:Option Addr}{m k c d:Nat}{xs ys:List Nat}(h1:Rs A a (bys xs))(h2:Rs A b (bys ys))(hx:xs.length=m)(hy:ys.length=k)(hn:m<=4194304)(hm:k<=4194304)(hc1:0<m)(hc2:0<k)(bx:∀x∈xs,x<256)(by_:∀x∈ys,x<256):
    Fn Tryz.prog 159 #[.slice a m c,.slice b k d] A (λ r B=>r= .bool (decide (xs=ys))/\ A=B):=by
  refine fn_enterW func159 rfl ntmps159 (by simp) ?_;refine Zdr ?_;refine tv (o_b2s (xs:=xs) underlying67 underlying5 underlying9 rfl (by repeat (first|exact h1|apply Rs.left)) hx oqz) ?_;refine tlm ?_;refine tv (o_b2s (xs:=ys) underlying67 underlying5 underlying9 rfl (by repeat (first|exact h2|apply Rs.left)) hy oqz) ?_;refine tv (o_eqstr rfl rfl) ?_;refine tl_env (d:=9) (v:= .bool (decide (xs=ys))) (by show Value.bool ((sob xs).toList==(sob ys).toList)=_;rw [show ((sob xs).toList==(sob ys).toList)=decide (xs=ys) from by rw [Bool.eq_iff_iff];simp [sob_inj bx by_]]) ?_;refine Zbd ?_;exact ⟨.bool (decide (xs=ys)),A,res1 rfl rfl,Dr.sat drqz,rfl,rfl⟩
end Go.Vl

namespace Go.Vl
open Go Go.Proofs Go.Proofs.Tryz
theorem o_slice3n {P:Program}{n:Nat}{ρ:Env}{A:SP}{dst:Option Tmp}{ty:TypeId}{pos:String}{after:Array Edge}{gd:Option (Nat×Bool)}{t e:TypeId}{x z u:Operand}{a:Option Addr}{len cap h m k:Nat}{k2 k3:IntKind}(hu:P.underlying t=some (.slice e))(hk:szE P e=some k)(hx:ev n ρ x= .slice a len cap)
    (hh:ev n ρ z= .int k2 (h:Nat)) (hm:ev n ρ u= .int k3 (m:Nat)) (h2:h<=m) (h3:m<=cap):
    OpV P n ρ A ⟨dst,.slice t x none (some z) (some u),ty,pos,after,gd⟩ (.slice a h m):=opv_of λ w=>by
  have e0:Value.slice (cutAddr a m 0 k) (h-0) (m-0)= .slice a h m:=by
    unfold cutAddr;cases a<;>simp [Addr.add]
  rw [←e0]
  simp only [execOp,hx,Option.map_some,Option.map_none,hh,hm]
  rw [run_bind (w':=w) (a:= .slice (cutAddr a m 0 k) (h-0) (m-0))]
  . rfl
  unfold Instr.sliceAt
  rw [run_bind (run_und hu)]
  try simp only []
  unfold Instr.slice
  rw [run_bind (run_und hu)]
  try simp only []
  have:(Instr.sliceBounds true len cap none (some (Value.int k2 (h:Nat))) (some (Value.int k3 (m:Nat)))).run P w= .ok (0,h,m) w:=by
    unfold Instr.sliceBounds
    simp only [Option.isSome_some,if_true]
    rw [run_bind (run_bound h3)]
    try simp only []
    rw [run_bind (run_bound h2)]
    rfl
  rw [run_bind this]
  try simp only []
  rw [run_bind (run_size hk)]
  rfl
theorem o_apQ {P:Program}{n:Nat}{ρ:Env}{A:SP}{dst:Option Tmp}{ty:TypeId}{pos:String}{after:Array Edge}{gd:Option (Nat×Bool)}{t t' e e':TypeId}{x y:Operand}{z:Value}{m k q bytes c:Nat}{a a2:Option Addr}{xs ys zs:List Value}
    (hu:P.underlying t=some (.slice e)) (hu':P.underlying t'=some (.slice e')) (hk:szE P e=some k) (hb:bytesE P e=some bytes) (hz:zeroE P e=some z) (hzk:z.cells.size=k) (hk0:0<k) (hb0:0<bytes)
    (hx:ev n ρ x= .slice a q q) (hy:ev n ρ y= .slice a2 m c) (hq:Rs A a xs) (hl:xs.length=q*k) (hr:Rs A a2 ys) (hm:ys.length=m*k) (hm0:0<m) (ho:ys.all oneC=true) (hlim:(q+m)*bytes<=140737488355328) (he:xs++ys=zs):
    OpX P n ρ A ⟨dst,.call { callee:= .builtin .append,args:= #[x,y],argTypes:= #[t,t'] },ty,pos,after,gd⟩ (λ v' B=>∃a' c',v'= .slice a' (q+m) c'/\ q+m<=c'/\ B=A*Sl k (.slice a' (q+m) c') (q+m) zs):=λ g w hs=>by
  subst he
  have key:∀ (r:Value) (w':World),(Builtin.append_ #[t,t'] ty #[.slice a q q,.slice a2 m c]).run P w= .ok r w'→
      (execOp (ev n ρ) ⟨dst,.call { callee:= .builtin .append,args:= #[x,y],argTypes:= #[t,t'] },ty,pos,after,gd⟩).run P w= .ok (.value r) w':=λ r w' h=>by
    simp only [execOp,resolve,List.map_toArray,List.map_cons,List.map_nil,hx,hy]
    rw [run_bind (w':=w) (a:=⟨.builtin .append #[t,t'] ty _,#[.slice a q q,.slice a2 m c]⟩) (by rfl)]
    simp only [invoke,builtin]
    rw [run_bind h];rfl
  obtain ⟨i,hi,hi1,hi2,hi3⟩:=info_of hk hb hz;have hroom:¬q+m<=q:=(by omega);have hbig:q<q+m:=(by omega);have hfit:=growslice_fits hbig hlim;have p48:(2:Nat)^48=281474976710656:=(by decide)
  let cut:=(Question.appendCap (q+m) q e).cut (w.tape w.drawn (.appendCap (q+m) q e))
  have hcut:q+m<=cut:=(by show q+m<=(q+m)+_;omega)
  let wd:World:={ w with drawn:=w.drawn+1 }
  have hsd:sat g wd A:=hs.draw rfl rfl rfl rfl;have hold':(Builtin.firstCells k q (.slice a q q)).run P wd= .ok xs.toArray wd:=run_firstCells (hq.rd hsd) hl hsd;have hn:(Builtin.firstCells k m (.slice a2 m c)).run P wd= .ok ys.toArray wd:=run_firstCells (hr.rd hsd) hm hsd
  let rest:=Builtin.zeroCells z.cells (cut-(q+m))
  have hrest:rest.size=(cut-(q+m))*k:=(by show (Builtin.zeroCells z.cells (cut-(q+m))).size=_;rw [size_zeroCells,hzk])
  let cs:=xs++ys++rest.toList
  have hcs:xs.toArray++ys.toArray++rest=cs.toArray:=(by apply Array.ext';simp [cs])
  have hsl:sat g (wd.alloc (cl cs e)) (A*Sl k (.slice (some ⟨w.heap.size,0,none⟩) (q+m) cut) (q+m) (xs++ys)):=by
    have:=hsd.alloc (cl cs e);refine sl_new this hcut ?_ ?_
    . simp only [cs,List.length_append,Array.length_toList,hrest,hl,hm,←Nat.add_mul]
      rw [Nat.add_sub_cancel' hcut];exact Nat.le_refl _
    have:(q+m)*k=(xs++ys).length:=(by rw [List.length_append,hl,hm,Nat.add_mul]);rw [this]
    show List.take _ ((xs++ys)++_)=_
    rw [List.take_left]
  refine ⟨.slice (some ⟨w.heap.size,0,none⟩) (q+m) cut,wd.alloc (cl cs e),_,key _ _ ?_,hsl,_,_,rfl,hcut,rfl⟩
  have h63:¬(9223372036854775807<((q:Int)+(m:Int))):=by
    have:(q+m)*1<=(q+m)*bytes:=Nat.mul_le_mul_left _ hb0
    omega
  have hfit':¬(281474976710656<Builtin.nextslicecap (q+m) q*i.bytes):=(by rw [hi2];omega);have hwd:w.drew=wd:=rfl;have hcut':(Question.appendCap (q+m) q e).cut (w.tape w.drawn (.appendCap (q+m) q e))=cut:=rfl;have hrow:wd.alloc (.cells (xs.toArray++ys.toArray++Builtin.zeroCells z.cells (cut-(q+m))) e)=wd.alloc (cl cs e):=congrArg (λ c=>wd.alloc (.cells c e)) hcs;have hsz:wd.heap.size=w.heap.size:=rfl;rw [←hrow]
  simp [Builtin.append_,run_underlying hu,run_underlying hu',sizeOf,typeInfo,zeroValue,hi,hi1,hi3,Builtin.lenOf,hroom,h63,hfit',Question.forced,hwd,hold',hn,hcut',newRow,hsz]
  congr 2;apply Array.ext';simp
theorem o_apQ0 {P:Program}{n:Nat}{ρ:Env}{A:SP}{dst:Option Tmp}{ty:TypeId}{pos:String}{after:Array Edge}{gd:Option (Nat×Bool)}{t t' e e':TypeId}{x y:Operand}{z:Value}{m k q bytes c:Nat}{a a2:Option Addr}{xs ys zs:List Value}{Y:SP}(hY:Dr A Y)
    (hu:P.underlying t=some (.slice e)) (hu':P.underlying t'=some (.slice e')) (hk:szE P e=some k) (hb:bytesE P e=some bytes) (hz:zeroE P e=some z) (hzk:z.cells.size=k) (hk0:0<k) (hb0:0<bytes)
    (hx:ev n ρ x= .slice a q q) (hy:ev n ρ y= .slice a2 m c) (hq:Rs Y a xs) (hl:xs.length=q*k) (hr:Rs A a2 ys) (hm:ys.length=m*k) (ho:ys.all oneC=true) (hlim:(q+m)*bytes<=140737488355328) (he:xs++ys=zs):
    OpX P n ρ A ⟨dst,.call { callee:= .builtin .append,args:= #[x,y],argTypes:= #[t,t'] },ty,pos,after,gd⟩ (λ v' B=>∃a' c' Z,v'= .slice a' (q+m) c'/\ (q+m<=c'/\ Rs (Y*Z) a' zs)/\ B=A*Z):=λ g w hs=>by
  by_cases hm0:0<m
  . obtain ⟨v',w',B,h1,h2,a',c',h3,h4,h5⟩:=o_apQ (dst:=dst) (ty:=ty) (pos:=pos) (after:=after) (gd:=gd) hu hu' hk hb hz hzk hk0 hb0 hx hy (hq.dr hY) hl hr hm hm0 ho hlim he g w hs;exact ⟨v',w',B,h1,h2,a',c',_,h3,⟨h4,rs_sl⟩,h5⟩
  obtain rfl:m=0:=by omega
  obtain rfl:ys=[]:=List.eq_nil_of_length_eq_zero oqz;obtain rfl:xs=zs:=by rw [←he,List.append_nil]
  obtain ⟨i,hi,hi1,hi2,hi3⟩:=info_of hk hb hz;have hn:(Builtin.firstCells k 0 (.slice a2 0 c)).run P w= .ok ([]:List Value).toArray w:=run_firstCells (hr.rd hs) hm hs
  have hr1:(Builtin.append_ #[t,t'] ty #[.slice a q q,.slice a2 0 c]).run P w= .ok (.slice a q q) w:=by
    cases a with
    |none=>simp [Builtin.append_,run_underlying hu,run_underlying hu',sizeOf,typeInfo,hi,hi1,Builtin.lenOf,hn]
    |some a=>simp [Builtin.append_,run_underlying hu,run_underlying hu',sizeOf,typeInfo,hi,hi1,Builtin.lenOf,hn,storeCells]
  refine ⟨.slice a q q,w,A*Sl k (.slice none 0 0) 0 [], ?_,sl_nil hs,a,q,_,rfl,⟨Nat.le_refl _,hq.left⟩,rfl⟩
  simp only [execOp,resolve,List.map_toArray,List.map_cons,List.map_nil,hx,hy]
  rw [run_bind (w':=w) (a:=⟨.builtin .append #[t,t'] ty _,#[.slice a q q,.slice a2 0 c]⟩) (by rfl)]
  simp only [invoke,builtin]
  rw [run_bind hr1];rfl
theorem rs_some {A:SP}{a:Option Addr}{xs:List Value}(h:Rs A a xs)(hx:0<xs.length){g:Gh}{w:World}(hs:sat g w A):∃b o,a=some ⟨b,o,none⟩:=by
  obtain ⟨b,o,h1,_⟩:=h g w hs 0 xs[0] (List.getElem?_eq_getElem hx);exact ⟨b,o,h1⟩
attribute [local irreducible] crk crL crc Sl pt ro Dev imgS recS readS recsF rdW rdO rkT Parts rvl recordsS runsL adrF kcl xcl kys runA runsF layF ovF TxA adZ WkA comS conB rootV ptsV
theorem Clone_c {A:SP}{a:Option Addr}{m c:Nat}{xs:List Nat}(hr:Rs A a (bys xs))(hx:xs.length=m)(hn:m<=4194304)(h0:0<m):
    Fn Tryz.prog 121 #[.slice a m c] A (λ r B=>∃a2 c2,r= .slice a2 m c2/\ m<=c2/\ B=A*Sl 1 (.slice a2 m c2) m (bys xs)):=by
  refine fn_enterW func121 rfl ntmps121 (by simp) ?_;refine tc_have (λ _ _ h=>rs_some hr (by rw [bys_length];omega) h) λ hab=> ?_
  obtain ⟨ba,oa,rfl⟩:=hab;refine Zie ?_;refine Zn ?_;intro h;refine Zgy ?_;refine tl_x rfl (o_buildSlice0 underlying67 sz5 rfl) ?_;rintro _ _ ⟨b5,rfl,rfl⟩;refine tlm ?_;refine tl_x rfl (o_apQ (q:=0) (xs:=[]) (ys:=bys xs) underlying67 underlying67 sz5 by5 z5 rfl (by decide) (by decide) rfl rfl rs_nil rfl (by repeat (first|exact hr|apply Rs.left)) (by rw [bys_length];omega) h0 (bys_all _) oqz (List.nil_append _)) ?_;rintro _ _ ⟨a7,c7,rfl,hc7,rfl⟩;refine Zbd ?_;exact ⟨.slice a7 (0+m) c7,A*Sl 1 (.slice a7 (0+m) c7) (0+m) (bys xs),res1 rfl rfl,Dr.sat drqz,a7,c7,by rw [Nat.zero_add],by omega,by rw [Nat.zero_add]⟩
theorem BlocksW {A R:SP}{C:SP->SP}{X:WkX}{Y:WkY}{s:DevS}(hc:Ct A (WkA X Y s) R C:=by exact cbqz):
    Fn Tryz.prog 200 #[.pointer (some ⟨X.w,0,none⟩)] A (λ r B=>r=(vn X.n)/\ A=B):=by
  refine fn_enterW func200 rfl ntmps200 (by simp) ?_;have hw9:=wka_w hc;have hh9:=wka_h hc;refine Zdd ?_;refine tl_c rfl (o_call bd126 rfl (there13_c (hw:=hw9))) ?_;refine Zb7 ?_;refine Zn ?_;intro h;refine Ze6 ?_;refine tv (o_fieldAddr (o:=0) underlying126 rfl rfl sz45 rfl) ?_;refine tv (o_load p45 rfl hw9 rfl) ?_;refine Zef ?_;refine tv (o_load p3 rfl hh9 rfl) ?_;refine Zbd ?_;exact ⟨.int .i64 ((X.n:Nat):Int),A,res1 rfl rfl,Dr.sat drqz,rfl,rfl⟩
end Go.Vl

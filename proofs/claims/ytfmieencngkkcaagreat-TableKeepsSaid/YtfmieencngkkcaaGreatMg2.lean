/- What the row rests on, part 2: a calculus of assertions, walks of functions over it, and plain laws. Conditions: none. -/
import Derived.Deep.QuietTactic
import Derived.BigQuiet
import Derived.WalkKit
import Derived.Test.YtfmieencngkkcaaGreatProg
import Derived.OrdersHeld
import Derived.Shelf.SortM.SortNone
import Derived.Shelf.SortM.Plain
import Derived.Ground.SlgmProg
import Derived.Shelf.SlIterI.Nil
import Derived.Ground.GgzProg
import Derived.Maps.RangeRun
import Derived.Laws.BytesArg
import Derived.RangeFuncRecord
import Derived.TacticsIn
import Derived.Deep.Slices
import Derived.OpenShut
import Derived.ChangeArms
import Derived.SizedLaws
import Derived.ChangeSame
import Derived.Test.YtfmieencngkkcaaGreatRows
import Derived.Sort.QuietThIn
import Derived.ScopeJumps
import Derived.LaidEqlPtr
import Derived.MapKept
import Derived.Laws.Externs
import Derived.Lib.Builder
import Derived.Lib.UnsafeStr
import Derived.Laws.Strings
import Derived.Test.YtfmieencngkkcaaGreatMg1
set_option linter.unusedVariables false
set_option linter.unusedSimpArgs false
set_option maxRecDepth 100000
set_option maxHeartbeats 4000000
namespace Go.Vl
open Go Go.Proofs Go.Proofs.Tryz
section
variable {P:Program} {n:Nat} {ρ:Env} {A:SP} {dst:Option Tmp} {ty:TypeId} {pos:String} {after:Array Edge} {gd:Option (Nat×Bool)}
theorem o_quoN {t t':TypeId}{x y:Operand}{a b:Nat}(hx:ev n ρ x= .int .i64 (a:Int))(hy:ev n ρ y= .int .i64 (b:Int))(h:0<b/\ a<=9223372036854775807):
    OpV P n ρ A ⟨dst,.binOp .quo t x y t',ty,pos,after,gd⟩ ((vn (a/b))):=o_quoI hx hy oqz
theorem o_remN {t t':TypeId}{x y:Operand}{k:IntKind}{a b:Nat}(hx:ev n ρ x= .int k (a:Int))(hy:ev n ρ y= .int k (b:Int))(h:0<b):
    OpV P n ρ A ⟨dst,.binOp .rem t x y t',ty,pos,after,gd⟩ (.int k ((a%b:Nat):Int)):=o_remI hx hy oqz
end
def seenL (l:LineS):List Nat:=l.st.getD (l.st.length-1) []
def layL (k v:Nat)(l:LineS):LineS:={ l with st:=l.st++[(seenL l).set k v] }
def onLine (f:LineS->LineS)(i:Nat)(s:DevS):DevS:=match s.ls[i]? with
  |some l=>{ s with ls:=s.ls.set i (f l) }
  |none=>s
theorem onLine_at {f:LineS->LineS}{i:Nat}{s:DevS}(h:i<s.ls.length):onLine f i s={ s with ls:=s.ls.set i (f s.ls[i]) }:=by
  unfold onLine;rw [List.getElem?_eq_getElem h]
def layS (at_ v:Nat)(s:DevS):DevS:=onLine (layL (at_%64/8) v) (at_/64) s
def Room (k:Nat)(s:DevS):Prop:=∀l∈s.ls,l.st.length+k<=2199023255552
theorem seenL_eq {l:LineS}(h:0<l.st.length):seenL l=l.st[l.st.length-1]:=by unfold seenL;rw [getD_at oqz]
theorem seenL_mem {l:LineS}(h:WfL l):seenL l∈l.st:=by
  have:=List.length_pos_iff.2 h.ne;rw [seenL_eq this];exact List.getElem_mem _
theorem onLine_wf {f:LineS->LineS}{i:Nat}{s:DevS}(hw:WfD s)(h:∀l∈s.ls,WfL (f l)):WfD (onLine f i s):=by
  unfold onLine
  cases e:s.ls[i]? with
  |none=>exact hw
  |some l=>
    have hm:=List.mem_of_getElem? e;refine ⟨by simp;exact hw.pos,by simp;exact hw.top,λ x hx=> ?_,hw.arms,hw.after,hw.keeps⟩
    rcases List.mem_or_eq_of_mem_set hx with h1|rfl
    . exact hw.line x h1
    exact h l hm
theorem layL_wf {k v:Nat}{l:LineS}(h:WfL l)(hr:l.st.length+1<=2199023255552)(hv:v<18446744073709551616):WfL (layL k v l):=by
  have hm:=seenL_mem h;refine ⟨by simp [layL], ?_,h.lo, ?_, ?_, ?_⟩
  . intro x hx
    simp only [layL,List.mem_append,List.mem_singleton] at hx
    rcases hx with hx|rfl
    . exact h.eight x hx
    rw [List.length_set];exact h.eight _ hm
  . have:=h.hi;simp only [layL,List.length_append,List.length_singleton];omega
  . simpa [layL] using hr
  intro x hx
  simp only [layL,List.mem_append,List.mem_singleton] at hx
  rcases hx with hx|rfl
  . exact h.words x hx
  intro y hy
  rcases List.mem_or_eq_of_mem_set hy with h1|rfl
  . exact h.words _ hm y h1
  exact hv
theorem layS_wf {at_ v:Nat}{s:DevS}(hw:WfD s)(hr:Room 1 s)(hv:v<18446744073709551616):WfD (layS at_ v s):=
  onLine_wf hw λ l hl=>layL_wf (hw.line l hl) (hr l hl) hv
theorem wds_set (s:List Nat)(k v:Nat):(wds s).set k (.int .u64 (v:Nat))=wds (s.set k v):=by simp [wds,List.map_set];rfl
theorem SP.drop_mid {g:Gh}{w:World}{X Y Z:SP}(h:sat g w (X*Y*Z)):sat g w (X*Z):=h.drop2
theorem Zgk {p r:Prop}(k:r)(h:Kq r->p:=by intro k;rintro _ _ ⟨rfl,rfl⟩;refine Zbp ?_;exact k.o):p:=h ⟨k⟩
theorem lay_f (F:SP)(d at_ v:Nat)(s:DevS)(hat:at_/64<s.ls.length)(hv:v<18446744073709551616)(hroom:Room 1 s):
    Fn Tryz.prog 303 #[pz d,vn at_,.int .u64 (v:Nat)] (F*Dev d s) (λ r B=>r= .int .i64 (doneE (layS at_ v s))/\ B=F*Dev d (doneS (layS at_ v s))):=by
  refine fn_enterW func303 rfl ntmps303 (by simp) ?_;refine tc_dev λ hw bl svs av kvs hsv hkv=> ?_
  have hpos:=hw.pos;have htop:=hw.top;obtain ⟨R,hf1,hf2⟩:=devC_focus (d:=d) (bl:=bl) (kvs:=kvs) (av:=av) (s:=s) hsv hat;refine tc_eq (hf1 F) ?_;refine tc_have (λ _ _ h=>sl_have' rfl h) λ ⟨a',c',hvv,hn',hl',hrd⟩=> ?_
  rw [hvv] at hrd ⊢
  have hwl:WfL s.ls[at_/64]:=hw.line _ (List.getElem_mem _);have hlen:0<s.ls[at_/64].st.length:=List.length_pos_iff.2 hwl.ne;have hsm:=hwl.small;have hcell:(lcs svs s.ls)[0+at_/64*2+0]? =some (.slice a' s.ls[at_/64].st.length c'):=(by rw [Nat.zero_add,Nat.add_zero,lcs_sv hsv oqz,hvv]);have hrm:=hroom _ (List.getElem_mem hat);have hs8:=hwl.eight _ (seenL_mem hwl);have hse:=seenL_eq hlen;refine Zha ?_;refine Zbg ?_;refine Ze1 ?_;refine tv (o_quoN (b:=64) rfl rfl oqz) ?_;refine Zfb ?_;refine Zo ?_;refine tl_c rfl (o_call bd156 rfl (seen_f _ bl (0+at_/64*2) c' a' s.ls[at_/64].st (cell_of_has sq3z hcell) hrd hwl.eight hlen hsm)) ?_;rintro _ _ ⟨rfl,rfl⟩;refine tl_env (d:=17) (v:= .agg (wds (seenL s.ls[at_/64])).toArray) (by rw [hse];rfl) ?_;refine tl_x rfl (o_alloc z238 rfl) ?_;rintro _ _ ⟨b8,rfl,rfl⟩;refine tl_u rfl (o_storeN (l':=wds (seenL s.ls[at_/64])) sz238 rfl rfl (by rw [wds_length];exact hs8) (wds_all _) (by simp) (splice_all (by rw [wds_length,hs8];rfl)) upd_here) ?_;refine nq ?_;refine Zo ?_;refine tv (o_remN (b:=64) rfl rfl oqz) ?_;refine tv (o_quoN (b:=8) rfl rfl oqz) ?_;refine tv (o_move rfl) ?_;refine tv (o_indexAddrAN1 underlying238 sz141 rfl rfl oqz) ?_;refine tl_u rfl (o_store (l':=wds ((seenL s.ls[at_/64]).set (at_%64/8) v)) sz141 rfl rfl rfl (by rw [wds_length,hs8];omega) (by rw [Nat.zero_add];exact wds_set _ _ _) upd_here) ?_;refine Zf2 ?_;refine tc_rega mo ?_
  show TA _ _ _ _ 11 (Array.replicate 11 false) _ _
  refine ta_pure (i:=0) (listed':= #[tt,ff,ff,ff,ff,ff,ff,ff,ff,ff,ff]) rfl kqz kqz kqz rfl rfl (o_move rfl) ?_;refine ta_pure (i:=1) (listed':= #[tt,tt,ff,ff,ff,ff,ff,ff,ff,ff,ff]) rfl kqz kqz kqz rfl rfl (o_move rfl) ?_;refine ta_pure (i:=2) (listed':= #[tt,tt,tt,ff,ff,ff,ff,ff,ff,ff,ff]) rfl kqz kqz kqz rfl rfl (o_nilCheck rfl) ?_;refine ta_pure (i:=3) (listed':= #[tt,tt,tt,tt,ff,ff,ff,ff,ff,ff,ff]) rfl kqz kqz kqz rfl rfl (o_fieldAddr (o:=0) underlying241 rfl rfl sz239 rfl) ?_;refine ta_two (i:=4) (j:=5) kqz ?_ ?_
  . skip
    refine oa_v (i:=4) (listed':= #[tt,tt,tt,tt,tt,ff,ff,ff,ff,ff,ff]) rfl rfl rfl (o_load p239 rfl sq3z hcell) ?_;refine ta_one (i:=5) kqz ?_;refine oa_v (i:=5) (listed':= #[tt,tt,tt,tt,tt,tt,ff,ff,ff,ff,ff]) rfl rfl rfl (o_loadNC (vs:=wds ((seenL s.ls[at_/64]).set (at_%64/8) v)) a238 sz238 rfl (by rw [wds_length,List.length_set];exact hs8) (cells_all (k:=8) sq3z (by rw [wds_length,List.length_set];exact hs8))) ?_;refine ta_one (i:=6) kqz ?_;refine oa_x (i:=6) (listed':= #[tt,tt,tt,tt,tt,tt,tt,ff,ff,ff,ff]) rfl rfl rfl (o_buildSliceK underlying239 sz238 z238 rfl (by rw [wds_length,List.length_set];exact hs8) (by decide)) ?_;rintro _ _ ⟨b29,rfl,rfl⟩;refine ta_eq (A':=F*R*pt bl (cl (lcs svs s.ls) 241)*pt d (cl (dcs bl s.ls.length s av) 236)*pt b8 (cl (wds ((seenL s.ls[at_/64]).set (at_%64/8) v)) 238)*Sl 8 (.slice a' s.ls[at_/64].st.length c') s.ls[at_/64].st.length (stc s.ls[at_/64].st)*pt b29 (cl (wds ((seenL s.ls[at_/64]).set (at_%64/8) v)) 238)) (by ac_rfl) ?_;refine ta_one (i:=7) kqz ?_;refine oa_x (i:=7) (listed':= #[tt,tt,tt,tt,tt,tt,tt,tt,ff,ff,ff]) rfl rfl rfl (o_append1 underlying239 underlying239 sz238 by238 z238 rfl (by decide) (by decide) rfl rfl rfl (by rw [wds_length,List.length_set];omega) (wds_all _) oqz) ?_;rintro u30 _ rfl;refine ta_have (λ _ _ h=>sl_have h) λ ⟨_,_,hu,_,_,_⟩=> ?_
    have hu1:oneC u30=true:=(by rw [hu];rfl);refine ta_pure (i:=8) (listed':= #[tt,tt,tt,tt,tt,tt,tt,tt,tt,ff,ff]) rfl kqz kqz kqz rfl rfl (o_nilCheck rfl) ?_;refine ta_pure (i:=9) (listed':= #[tt,tt,tt,tt,tt,tt,tt,tt,tt,tt,ff]) rfl kqz kqz kqz rfl rfl (o_fieldAddr (o:=0) underlying241 rfl rfl sz239 rfl) ?_;refine ta_one (i:=10) kqz ?_;refine oa_u (i:=10) (listed':=(Array.replicate 11 true)) rfl rfl rfl (o_store (l:=lcs svs s.ls) (l':=lcs (svs.set (at_/64) u30) (s.ls.set (at_/64) (layL (at_%64/8) v s.ls[at_/64]))) sz239 rfl rfl hu1 (by rw [lcs_length hsv];omega) (by rw [Nat.zero_add,Nat.add_zero];exact lcs_set_sv (layL (at_%64/8) v s.ls[at_/64]) hsv hat rfl) sq5z) ?_;refine Zfs ?_;refine Zo ?_;have hLL:(layL (at_%64/8) v s.ls[at_/64]).st.length=s.ls[at_/64].st.length+1:=(by simp [layL]);have hLS:stc (layL (at_%64/8) v s.ls[at_/64]).st=stc s.ls[at_/64].st++wds ((seenL s.ls[at_/64]).set (at_%64/8) v):=(by simp only [layL];rw [stc_append,stc_one]);have hfin:=hf2 F u30 (layL (at_%64/8) v s.ls[at_/64]);rw [hLL,hLS,←onLine_at (f:=layL (at_%64/8) v) hat] at hfin
    refine tl_pre (λ _ _ h=>SP.drop_mid h) ?_;refine tl_eq hfin ?_;refine tl_pre (dev_back (s:=layS at_ v s) (layS_wf hw hroom hv) (by unfold layS;rw [onLine_at hat];simp [hsv]) (by unfold layS;rw [onLine_at hat];exact hkv)) ?_;refine tl_c rfl (o_call bd266 rfl (done_f F d (layS at_ v s))) ?_;refine Zgk ?_;exact ⟨_,_,res1 rfl rfl,λ _ _ h=>h,rfl,rfl⟩
  . skip
    refine oa_v (i:=5) (listed':= #[tt,tt,tt,tt,ff,tt,ff,ff,ff,ff,ff]) rfl rfl rfl (o_loadNC (vs:=wds ((seenL s.ls[at_/64]).set (at_%64/8) v)) a238 sz238 rfl (by rw [wds_length,List.length_set];exact hs8) (cells_all (k:=8) sq3z (by rw [wds_length,List.length_set];exact hs8))) ?_;refine ta_two (i:=4) (j:=6) kqz ?_ ?_
    . skip
      refine oa_v (i:=4) (listed':= #[tt,tt,tt,tt,tt,tt,ff,ff,ff,ff,ff]) rfl rfl rfl (o_load p239 rfl sq3z hcell) ?_;refine ta_one (i:=6) kqz ?_;refine oa_x (i:=6) (listed':= #[tt,tt,tt,tt,tt,tt,tt,ff,ff,ff,ff]) rfl rfl rfl (o_buildSliceK underlying239 sz238 z238 rfl (by rw [wds_length,List.length_set];exact hs8) (by decide)) ?_;rintro _ _ ⟨b29,rfl,rfl⟩;refine ta_eq (A':=F*R*pt bl (cl (lcs svs s.ls) 241)*pt d (cl (dcs bl s.ls.length s av) 236)*pt b8 (cl (wds ((seenL s.ls[at_/64]).set (at_%64/8) v)) 238)*Sl 8 (.slice a' s.ls[at_/64].st.length c') s.ls[at_/64].st.length (stc s.ls[at_/64].st)*pt b29 (cl (wds ((seenL s.ls[at_/64]).set (at_%64/8) v)) 238)) (by ac_rfl) ?_;refine ta_one (i:=7) kqz ?_;refine oa_x (i:=7) (listed':= #[tt,tt,tt,tt,tt,tt,tt,tt,ff,ff,ff]) rfl rfl rfl (o_append1 underlying239 underlying239 sz238 by238 z238 rfl (by decide) (by decide) rfl rfl rfl (by rw [wds_length,List.length_set];omega) (wds_all _) oqz) ?_;rintro u30 _ rfl;refine ta_have (λ _ _ h=>sl_have h) λ ⟨_,_,hu,_,_,_⟩=> ?_
      have hu1:oneC u30=true:=(by rw [hu];rfl);refine ta_pure (i:=8) (listed':= #[tt,tt,tt,tt,tt,tt,tt,tt,tt,ff,ff]) rfl kqz kqz kqz rfl rfl (o_nilCheck rfl) ?_;refine ta_pure (i:=9) (listed':= #[tt,tt,tt,tt,tt,tt,tt,tt,tt,tt,ff]) rfl kqz kqz kqz rfl rfl (o_fieldAddr (o:=0) underlying241 rfl rfl sz239 rfl) ?_;refine ta_one (i:=10) kqz ?_;refine oa_u (i:=10) (listed':=(Array.replicate 11 true)) rfl rfl rfl (o_store (l:=lcs svs s.ls) (l':=lcs (svs.set (at_/64) u30) (s.ls.set (at_/64) (layL (at_%64/8) v s.ls[at_/64]))) sz239 rfl rfl hu1 (by rw [lcs_length hsv];omega) (by rw [Nat.zero_add,Nat.add_zero];exact lcs_set_sv (layL (at_%64/8) v s.ls[at_/64]) hsv hat rfl) sq5z) ?_;refine Zfs ?_;refine Zo ?_;have hLL:(layL (at_%64/8) v s.ls[at_/64]).st.length=s.ls[at_/64].st.length+1:=(by simp [layL]);have hLS:stc (layL (at_%64/8) v s.ls[at_/64]).st=stc s.ls[at_/64].st++wds ((seenL s.ls[at_/64]).set (at_%64/8) v):=(by simp only [layL];rw [stc_append,stc_one]);have hfin:=hf2 F u30 (layL (at_%64/8) v s.ls[at_/64]);rw [hLL,hLS,←onLine_at (f:=layL (at_%64/8) v) hat] at hfin
      refine tl_pre (λ _ _ h=>SP.drop_mid h) ?_;refine tl_eq hfin ?_;refine tl_pre (dev_back (s:=layS at_ v s) (layS_wf hw hroom hv) (by unfold layS;rw [onLine_at hat];simp [hsv]) (by unfold layS;rw [onLine_at hat];exact hkv)) ?_;refine tl_c rfl (o_call bd266 rfl (done_f F d (layS at_ v s))) ?_;refine Zgk ?_;exact ⟨_,_,res1 rfl rfl,λ _ _ h=>h,rfl,rfl⟩
    . skip
      refine oa_x (i:=6) (listed':= #[tt,tt,tt,tt,ff,tt,tt,ff,ff,ff,ff]) rfl rfl rfl (o_buildSliceK underlying239 sz238 z238 rfl (by rw [wds_length,List.length_set];exact hs8) (by decide)) ?_;rintro _ _ ⟨b29,rfl,rfl⟩;refine ta_eq (A':=F*R*pt bl (cl (lcs svs s.ls) 241)*pt d (cl (dcs bl s.ls.length s av) 236)*pt b8 (cl (wds ((seenL s.ls[at_/64]).set (at_%64/8) v)) 238)*Sl 8 (.slice a' s.ls[at_/64].st.length c') s.ls[at_/64].st.length (stc s.ls[at_/64].st)*pt b29 (cl (wds ((seenL s.ls[at_/64]).set (at_%64/8) v)) 238)) (by ac_rfl) ?_;refine ta_one (i:=4) kqz ?_;refine oa_v (i:=4) (listed':= #[tt,tt,tt,tt,tt,tt,tt,ff,ff,ff,ff]) rfl rfl rfl (o_load p239 rfl sq3z hcell) ?_;refine ta_one (i:=7) kqz ?_;refine oa_x (i:=7) (listed':= #[tt,tt,tt,tt,tt,tt,tt,tt,ff,ff,ff]) rfl rfl rfl (o_append1 underlying239 underlying239 sz238 by238 z238 rfl (by decide) (by decide) rfl rfl rfl (by rw [wds_length,List.length_set];omega) (wds_all _) oqz) ?_;rintro u30 _ rfl;refine ta_have (λ _ _ h=>sl_have h) λ ⟨_,_,hu,_,_,_⟩=> ?_
      have hu1:oneC u30=true:=(by rw [hu];rfl);refine ta_pure (i:=8) (listed':= #[tt,tt,tt,tt,tt,tt,tt,tt,tt,ff,ff]) rfl kqz kqz kqz rfl rfl (o_nilCheck rfl) ?_;refine ta_pure (i:=9) (listed':= #[tt,tt,tt,tt,tt,tt,tt,tt,tt,tt,ff]) rfl kqz kqz kqz rfl rfl (o_fieldAddr (o:=0) underlying241 rfl rfl sz239 rfl) ?_;refine ta_one (i:=10) kqz ?_;refine oa_u (i:=10) (listed':=(Array.replicate 11 true)) rfl rfl rfl (o_store (l:=lcs svs s.ls) (l':=lcs (svs.set (at_/64) u30) (s.ls.set (at_/64) (layL (at_%64/8) v s.ls[at_/64]))) sz239 rfl rfl hu1 (by rw [lcs_length hsv];omega) (by rw [Nat.zero_add,Nat.add_zero];exact lcs_set_sv (layL (at_%64/8) v s.ls[at_/64]) hsv hat rfl) sq5z) ?_;refine Zfs ?_;refine Zo ?_;have hLL:(layL (at_%64/8) v s.ls[at_/64]).st.length=s.ls[at_/64].st.length+1:=(by simp [layL]);have hLS:stc (layL (at_%64/8) v s.ls[at_/64]).st=stc s.ls[at_/64].st++wds ((seenL s.ls[at_/64]).set (at_%64/8) v):=(by simp only [layL];rw [stc_append,stc_one]);have hfin:=hf2 F u30 (layL (at_%64/8) v s.ls[at_/64]);rw [hLL,hLS,←onLine_at (f:=layL (at_%64/8) v) hat] at hfin
      refine tl_pre (λ _ _ h=>SP.drop_mid h) ?_;refine tl_eq hfin ?_;refine tl_pre (dev_back (s:=layS at_ v s) (layS_wf hw hroom hv) (by unfold layS;rw [onLine_at hat];simp [hsv]) (by unfold layS;rw [onLine_at hat];exact hkv)) ?_;refine tl_c rfl (o_call bd266 rfl (done_f F d (layS at_ v s))) ?_;refine Zgk ?_;exact ⟨_,_,res1 rfl rfl,λ _ _ h=>h,rfl,rfl⟩
def st8 (p:Int)(v:Nat)(s:DevS):Int×DevS:=
  if rdy s.ls.length s.off p 8≠0 then (rdy s.ls.length s.off p 8,s) else if p%8≠0 then (6,s) else (doneE (layS p.toNat v s),doneS (layS p.toNat v s))
theorem rdy0 {n:Nat}{off:Bool}{p m:Int}(h:rdy n off p m=0):off=false/\ 0<=p/\ 0<=m/\ p+m<=(n:Int)*64:=by
  unfold rdy at h
  split at h
  . exact absurd h oqz
  rename_i ho
  split at h
  . exact absurd h oqz
  exact ⟨by simpa using ho,by omega,by omega,by omega⟩
theorem Store8_f (F:SP)(d v:Nat)(p:Int)(s:DevS)(hp: -9223372036854775808<=p/\ p<=9223372036854775807)(hv:v<18446744073709551616)(hroom:Room 1 s):
    Fn Tryz.prog 308 #[pz d,.int .i64 p,.int .u64 (v:Nat)] (F*Dev d s) (λ r B=>r= .int .i64 (st8 p v s).1/\ B=F*Dev d (st8 p v s).2):=by
  refine fn_enterW func308 rfl ntmps308 (by simp) ?_;refine tc_dev λ hw bl svs av kvs hsv hkv=> ?_
  have hpos:=hw.pos;have htop:=hw.top;refine Zf8 ?_;refine tv (o_move rfl) ?_;refine tl_c rfl (o_call bd193 rfl (ready_f _ d bl s.ls.length s av dev_cells hpos htop p 8 hp oqz)) ?_;refine Zex ?_;refine Zo ?_;refine Z5 ?_;refine tc_cond rfl (sbq ?_) (λ h=> ?_)
  . intro h;refine Zo ?_;refine Zbp ?_;refine q_then_r ?_;exact ⟨.int .i64 (rdy s.ls.length s.off p 8),_,res1 rfl rfl,dev_back hw hsv hkv,by unfold st8;rw [if_pos h],by unfold st8;rw [if_pos h]⟩
  simp only [bne_iff_ne,ne_eq,decide_eq_false_iff_not,Bool.not_eq_false',Bool.not_eq_true',decide_eq_true_eq] at h
  have hr0:=rdy0 (show rdy s.ls.length s.off p 8=0 by omega);obtain ⟨q,rfl⟩:=Int.eq_ofNat_of_zero_le hr0.2.1;refine Ze ?_;refine Zca ?_;refine tv (o_remI rfl rfl oqz) ?_;refine Z5 ?_;refine tc_cond rfl (sbq ?_) (sbq ?_)
  . intro h;refine Zfg ?_;refine q_then_r ?_;exact ⟨.int .i64 6,_,res1 rfl rfl,dev_back hw hsv hkv,by unfold st8;rw [if_neg oqz,if_pos oqz],by unfold st8;rw [if_neg oqz,if_pos oqz]⟩
  intro h;refine Ze ?_;refine Zo ?_;refine Zbt ?_;refine tl_pre (dev_back hw hsv hkv) ?_;refine tl_c rfl (o_call bd303 rfl (lay_f F d q v s oqz hv hroom)) ?_;refine Zgk ?_;exact ⟨_,_,res1 rfl rfl,λ _ _ h=>h,by unfold st8;rw [if_neg oqz,if_neg oqz];rfl,by unfold st8;rw [if_neg oqz,if_neg oqz];rfl⟩
theorem cut_lt {b o c l k:Nat}(h:l<c):cutAddr (some ⟨b,o,none⟩) c l k=some ⟨b,o+l*k,none⟩:=by
  unfold cutAddr;rw [if_neg oqz];simp [addr_add]
def flushL (l:LineS):LineS:={ l with mark:=(l.st.length:Int)-1 }
def flushS (p:Nat)(s:DevS):DevS:=onLine flushL (p/64) s
theorem flushL_wf {l:LineS}(h:WfL l):WfL (flushL l):=by
  have:=List.length_pos_iff.2 h.ne;exact ⟨h.ne,h.eight,by simp only [flushL];omega,by simp only [flushL];omega,h.small,h.words⟩
theorem flushS_wf {p:Nat}{s:DevS}(hw:WfD s):WfD (flushS p s):=onLine_wf hw λ l hl=>flushL_wf (hw.line l hl)
def fl1 (p:Int)(s:DevS):Int×DevS:=
  if rdy s.ls.length s.off p 1≠0 then (rdy s.ls.length s.off p 1,s) else (doneE (flushS p.toNat s),doneS (flushS p.toNat s))
def mp (f:LineS->LineS)(i:Nat)(ls:List LineS):List LineS:=ls.mapIdx λ j l=>if j<i then f l else l
theorem mp_length (f i ls):(mp f i ls).length=ls.length:=by simp [mp]
theorem mp_zero (f)(ls:List LineS):mp f 0 ls=ls:=by
  apply List.ext_getElem?
  intro j;simp [mp,List.getElem?_mapIdx]
theorem mp_at (f){i:Nat}{ls:List LineS}(hi:i<ls.length):(mp f i ls)[i]'(by rw [mp_length];exact hi)=ls[i]:=by simp [mp]
theorem mp_set (f){i:Nat}{ls:List LineS}(hi:i<ls.length):(mp f i ls).set i (f ls[i])=mp f (i+1) ls:=by
  apply List.ext_getElem?
  intro j
  by_cases hj:j=i
  . subst hj;rw [List.getElem?_set_self (by rw [mp_length];exact hi)]
    simp [mp,List.getElem?_mapIdx,hi]
  rw [List.getElem?_set_ne (Ne.symm hj)]
  simp only [mp,List.getElem?_mapIdx]
  by_cases hlt:j<i
  . simp [hlt,show j<i+1 by omega]
  simp [hlt,show¬j<i+1 by omega]
theorem mp_same (f){i:Nat}{ls:List LineS}(hi:i<ls.length)(he:f ls[i]=ls[i]):mp f (i+1) ls=mp f i ls:=by
  rw [←mp_set f hi,he]
  have:=set_getElem (l:=mp f i ls) (i:=i) (by rw [mp_length];exact hi)
  rwa [mp_at f hi] at this
theorem mp_map (f)(ls:List LineS):mp f ls.length ls=ls.map f:=by
  apply List.ext_getElem?
  intro j
  simp only [mp,List.getElem?_mapIdx,List.getElem?_map]
  rcases Nat.lt_or_ge j ls.length with h|h
  . simp [h]
  simp [h]
def fenceL (l:LineS):LineS:=if 0<=l.mark then ⟨l.st.drop l.mark.toNat,-1⟩ else l
def fenceS (s:DevS):DevS:={ s with ls:=s.ls.map fenceL }
theorem fenceL_wf {l:LineS}(h:WfL l):WfL (fenceL l):=by
  unfold fenceL
  split
  . have:=h.hi;refine ⟨by simp only [ne_eq,List.drop_eq_nil_iff];omega,λ x hx=>h.eight x (List.mem_of_mem_drop hx),by simp,by simp only [];omega, ?_,λ x hx=>h.words x (List.mem_of_mem_drop hx)⟩;have:=h.small
    simp only [List.length_drop];omega
  exact h
theorem fenceS_wf {s:DevS}(hw:WfD s):WfD (fenceS s):=⟨by simp [fenceS];exact hw.pos,by simp [fenceS];exact hw.top,λ l hl=>by
  simp only [fenceS,List.mem_map] at hl
  obtain ⟨m,hm,rfl⟩:=hl
  exact fenceL_wf (hw.line m hm),hw.arms,hw.after,hw.keeps⟩
def fe (s:DevS):Int×DevS:=if s.off then (5,s) else (doneE (fenceS s),doneS (fenceS s))
theorem rdy00 {n:Nat}{off:Bool}:rdy n off 0 0=if off then 5 else 0:=by
  unfold rdy
  split
  . rfl
  rw [if_neg oqz]
theorem Zeh {p r:Prop}(k:r)(h:Kq r->p:=by intro k;refine tv (o_nilCheck rfl) ?_;refine tv (o_fieldAddr (o:=1) underlying241 rfl rfl sz3 rfl) ?_;exact k.o):p:=h ⟨k⟩
theorem Flush_f (F:SP)(d:Nat)(p:Int)(s:DevS)(hp: -9223372036854775808<=p/\ p<=9223372036854775807):
    Fn Tryz.prog 264 #[pz d,.int .i64 p] (F*Dev d s) (λ r B=>r= .int .i64 (fl1 p s).1/\ B=F*Dev d (fl1 p s).2):=by
  refine fn_enterW func264 rfl ntmps264 (by simp) ?_;refine tc_dev λ hw bl svs av kvs hsv hkv=> ?_
  have hpos:=hw.pos;have htop:=hw.top;refine Zf8 ?_;refine tv (o_move rfl) ?_;refine tl_c rfl (o_call bd193 rfl (ready_f _ d bl s.ls.length s av dev_cells hpos htop p 1 hp oqz)) ?_;refine Zex ?_;refine Zo ?_;refine Z5 ?_;refine tc_cond rfl (sbq ?_) (λ h=> ?_)
  . intro h;refine Zo ?_;refine Zbp ?_;refine q_then_r ?_;exact ⟨.int .i64 (rdy s.ls.length s.off p 1),_,res1 rfl rfl,dev_back hw hsv hkv,by unfold fl1;rw [if_pos h],by unfold fl1;rw [if_pos h]⟩
  simp only [bne_iff_ne,ne_eq,decide_eq_false_iff_not,Bool.not_eq_false',Bool.not_eq_true',decide_eq_true_eq] at h
  have hr0:=rdy0 (show rdy s.ls.length s.off p 1=0 by omega);obtain ⟨q,rfl⟩:=Int.eq_ofNat_of_zero_le hr0.2.1;have hat:q/64<s.ls.length:=(by omega);obtain ⟨R,hf1,hf2⟩:=devC_focus (d:=d) (bl:=bl) (kvs:=kvs) (av:=av) (s:=s) hsv hat;refine tc_eq (hf1 F) ?_;refine tc_have (λ _ _ h=>sl_have' rfl h) λ ⟨a',c',hvv,hn',hl',hrd⟩=> ?_
  have hwl:WfL s.ls[q/64]:=hw.line _ (List.getElem_mem _);have hlen:0<s.ls[q/64].st.length:=List.length_pos_iff.2 hwl.ne;have hsm:=hwl.small;have hcell:(lcs svs s.ls)[0+q/64*2+0]? =some (.slice a' s.ls[q/64].st.length c'):=(by rw [Nat.zero_add,Nat.add_zero,lcs_sv hsv oqz,hvv]);refine Ze ?_;refine Zo ?_;refine Zbg ?_;refine Ze1 ?_;refine tv (o_quoN (a:=q) (b:=64) rfl rfl oqz) ?_;refine Zfb ?_;refine Zel ?_;refine Zfo ?_;refine tv (o_load p239 rfl sq3z hcell) ?_;refine tv (o_len underlying239 rfl) ?_;refine tv (by first|exact o_subI rfl rfl oqz|exact o_sub rfl rfl) ?_;refine Zeh ?_;refine tl_u rfl (o_store (l:=lcs svs s.ls) (l':=lcs svs (s.ls.set (q/64) (flushL s.ls[q/64]))) sz3 rfl rfl rfl (by rw [lcs_length hsv];omega) (by rw [Nat.zero_add];exact lcs_set_mark (flushL s.ls[q/64]) hsv hat) sq5z) ?_;refine nq ?_;refine Zo ?_;have hfin:=hf2 F svs[q/64] (flushL s.ls[q/64]);rw [set_getElem oqz,←onLine_at (f:=flushL) hat] at hfin
  refine tl_eq hfin ?_;refine tl_pre (dev_back (s:=flushS q s) (flushS_wf hw) (by unfold flushS;rw [onLine_at hat];simp [hsv]) (by unfold flushS;rw [onLine_at hat];exact hkv)) ?_;refine tl_c rfl (o_call bd266 rfl (done_f F d (flushS q s))) ?_;refine Zgk ?_;exact ⟨.int .i64 (doneE (flushS q s)),_,res1 rfl rfl,λ _ _ h=>h,by unfold fl1;rw [if_neg oqz];rfl,by unfold fl1;rw [if_neg oqz];rfl⟩
structure DevR (A:SP) (d bl:Nat) (svs:List Value) (av:Value) (s:DevS):Prop where
  d:Cells A d 0 (dcs bl s.ls.length s av)
  b:Cells A bl 0 (lcs svs s.ls)
  len:svs.length=s.ls.length
  st:∀i (h:i<s.ls.length),∃a c,svs[i]? =some (.slice a s.ls[i].st.length c)/\ s.ls[i].st.length<=c/\ Rd A a (stc s.ls[i].st)
  wf:WfD s
theorem DevR.left {A X:SP}{d bl:Nat}{svs:List Value}{av:Value}{s:DevS}(h:DevR A d bl svs av s):DevR (A*X) d bl svs av s:=
  ⟨h.d.left,h.b.left,h.len,λ i hi=>by obtain ⟨a,c,h1,h2,h3⟩:=h.st i hi;exact ⟨a,c,h1,h2,h3.left⟩,h.wf⟩
theorem devR_of {F:SP}{d bl:Nat}{svs kvs:List Value}{av:Value}{s:DevS}(hw:WfD s)(hsv:svs.length=s.ls.length){g:Gh}{w:World}(hs:sat g w (F*DevC d bl svs av kvs s)):DevR (F*DevC d bl svs av kvs s) d bl svs av s:=
  ⟨dev_cells,cells_all devC_bl (lcs_length hsv),hsv,λ i hi=>by
    obtain ⟨R,hf1,_⟩:=devC_focus (d:=d) (bl:=bl) (kvs:=kvs) (av:=av) (s:=s) hsv hi;obtain ⟨a,c,h1,h2,_,h3⟩:=sl_have' (hf1 F) hs
    exact ⟨a,c,by rw [List.getElem?_eq_getElem oqz,h1],h2,h3⟩,hw⟩
theorem fn_devR {P:Program}{f:FuncId}{args:Array Value}{F:SP}{d:Nat}{s:DevS}{Q:Value->SP->Prop}
    (h:WfD s->∀A bl svs av,DevR A d bl svs av s->Fn P f args A λ r B=>∃X,B=A*X/\ Q r X):
    Fn P f args (F*Dev d s) λ r B=>∃X,B=F*Dev d s*X/\ Q r X:=λ g w hs=>by
  obtain ⟨hw,bl,svs,av,kvs,h1,h2,hs'⟩:=dev_iff.1 hs;refine (h hw _ bl svs av (devR_of hw h1 hs') g w hs').mono ?_;rintro e w' ⟨v,B,e1,⟨X,rfl,hq⟩,hB⟩;refine ⟨v,F*Dev d s*X,e1,⟨X,rfl,hq⟩, ?_⟩;rw [star_swap] at hB ⊢
  exact dev_back hw h1 h2 _ _ hB
theorem fn_devR0 {P:Program}{f:FuncId}{args:Array Value}{F:SP}{d:Nat}{s:DevS}{q:Value->Prop}
    (h:WfD s->∀A bl svs av,DevR A d bl svs av s->Fn P f args A λ r B=>q r/\ A=B):
    Fn P f args (F*Dev d s) λ r B=>q r/\ F*Dev d s=B:=λ g w hs=>by
  obtain ⟨hw,bl,svs,av,kvs,h1,h2,hs'⟩:=dev_iff.1 hs;refine (h hw _ bl svs av (devR_of hw h1 hs') g w hs').mono ?_;rintro e w' ⟨v,B,e1,⟨hq,rfl⟩,hB⟩;exact ⟨v,F*Dev d s,e1,⟨hq,rfl⟩,dev_back hw h1 h2 _ _ hB⟩
theorem seenR_f {A:SP}{d bl:Nat}{svs:List Value}{av:Value}{s:DevS}(h:DevR A d bl svs av s){i:Nat}(hi:i<s.ls.length):
    Fn Tryz.prog 156 #[.pointer (some ⟨bl,0+i*2,none⟩)] A (λ r B=>r= .agg (wds (seenL s.ls[i])).toArray/\ A=B):=by
  obtain ⟨a,c,h1,h2,h3⟩:=h.st i hi;have hwl:=h.wf.line _ (List.getElem_mem hi);have hp:=List.length_pos_iff.2 hwl.ne
  have hb:=h.b (i*2) (.slice a s.ls[i].st.length c) (by
    have:=lcs_sv (vs:=svs) (ls:=s.ls) (i:=i) h.len (by have:=h.len;omega)
    rw [this];rw [List.getElem?_eq_getElem (by have:=h.len;omega)] at h1;exact h1)
  refine (seen_f A bl (0+i*2) c a s.ls[i].st hb h3 hwl.eight hp hwl.small).mono λ v B ⟨e,e'⟩=>⟨?_,e'⟩
  rw [e,seenL_eq hp]
def img (ls:List LineS):List Nat:=ls.flatMap λ l=>lb (seenL l)
def imgS (s:DevS):List Nat:=img s.ls
theorem seen8 {l:LineS}(h:WfL l):(lb (seenL l)).length=64:=by rw [lb_length,h.eight _ (seenL_mem h)]
theorem img_length {ls:List LineS}(h:∀l∈ls,WfL l):(img ls).length=ls.length*64:=by
  induction ls with
  |nil=>rfl
  |cons l ls ih=>
    have:=ih λ x hx=>h x (by simp [hx])
    have h8:=seen8 (h l (by simp))
    simp only [img,List.flatMap_cons,List.length_append,List.length_cons] at*
    omega
theorem img_at:∀{ls:List LineS} {i:Nat} (_:∀l∈ls,WfL l) (hi:i<ls.length),(img ls).drop (i*64)=lb (seenL ls[i])++img (ls.drop (i+1))
  |l::ls,0,_,_=>by simp [img]
  |l::ls,i+1,h,hi=>by
    have h8:=seen8 (h l (by simp));have e:(i+1)*64=(lb (seenL l)).length+i*64:=(by omega);rw [e]
    show ((lb (seenL l))++img ls).drop _=_
    rw [←List.drop_drop,List.drop_left]
    exact img_at (λ x hx=>h x (by simp [hx])) (by simpa using hi)
theorem img_chunk {ls:List LineS}{q c:Nat}(h:∀l∈ls,WfL l)(hq:q/64<ls.length)(hc:c<=64-q%64):
    ((lb (seenL ls[q/64])).drop (q%64)).take c=((img ls).drop q).take c:=by
  have h8:=seen8 (h _ (List.getElem_mem hq));have e:q=q/64*64+q%64:=(by omega)
  conv=>rhs;rw [e]
  rw [←List.drop_drop,img_at h hq,List.drop_append_of_le_length oqz,List.take_append_of_le_length (by rw [List.length_drop];omega)]
theorem load_step {W:List Nat}{ls:List LineS}{p m k c:Nat}(h:∀l∈ls,WfL l)(hW:W=((img ls).drop p).take m)(hp:p+m<=ls.length*64)(hk:k<m)(hc:c=min (64-(p+k)%64) (m-k))(hq:(p+k)/64<ls.length)(z:Value):
    splice (bys (W.take k)++List.replicate (m-k) z) k ((bys ((lb (seenL ls[(p+k)/64])).drop ((p+k)%64))).take c)=bys (W.take (k+c))++List.replicate (m-(k+c)) z:=by
  have hl:=img_length h;have hWl:W.length=m:=(by rw [hW,List.length_take,List.length_drop];omega);have h8:=seen8 (h _ (List.getElem_mem hq))
  have e1:(bys ((lb (seenL ls[(p+k)/64])).drop ((p+k)%64))).take c=bys ((W.drop k).take c):=by
    unfold bys
    rw [←List.map_take,img_chunk h hq oqz,hW,List.drop_take,List.drop_drop,List.take_take]
    congr 2;omega
  rw [e1,splice_eq (by simp [bys_length,hWl];omega)]
  have e2:(bys (W.take k)).length=k:=(by rw [bys_length,List.length_take];omega);have e3:(bys ((W.drop k).take c)).length=c:=(by rw [bys_length,List.length_take,List.length_drop];omega);rw [e3,List.take_left' e2,←List.drop_drop,List.drop_left' e2,List.drop_replicate,List.take_add,bys_append]
  congr 2;omega
def Parts:List Value->List (List Nat)->SP
  |v::vs,x::xs=>Parts vs xs*Sl 1 v x.length (bys x)
  |[],[]=>emp
  |_,_=>pure_ False
theorem parts_snoc:∀{vs:List Value} {ls:List (List Nat)} {v:Value} {x:List Nat} (_:vs.length=ls.length),Parts (vs++[v]) (ls++[x])=Parts vs ls*Sl 1 v x.length (bys x)
  |[],[],_,_,_=>rfl
  |u::vs,y::ls,v,x,h=>by
    show Parts (vs++[v]) (ls++[x])*Sl 1 u y.length (bys y)=_
    rw [parts_snoc (by simpa using h)]
    show _=Parts vs ls*Sl 1 u y.length (bys y)*Sl 1 v x.length (bys x)
    rw [star_swap]
theorem LoadNo_f (A:SP)(d bl:Nat)(svs:List Value)(av:Value)(s:DevS)(hR:DevR A d bl svs av s)(p m:Int)(hp: -9223372036854775808<=p/\ p<=9223372036854775807)(hm: -9223372036854775808<=m/\ m<=9223372036854775807)(hno:rdy s.ls.length s.off p m≠0):
    Fn Tryz.prog 247 #[pz d,.int .i64 p,.int .i64 m] A (λ r B=>r= .tuple #[.slice none 0 0,.int .i64 (rdy s.ls.length s.off p m)]/\ A=B):=by
  refine fn_enter func247 rfl ntmps247 (by simp) ?_;refine Zgf ?_;refine Zf ?_;refine Zca ?_;refine Zbt ?_;refine tl_c rfl (o_call bd193 rfl (ready_f _ d bl s.ls.length s av hR.d hR.wf.pos hR.wf.top p m hp hm)) ?_;refine Zex ?_;refine Zo ?_;refine Z5 ?_;refine tc_cond rfl (sbq ?_) (λ h=> ?_)
  . intro h;refine Zo ?_;refine Zf7 ?_;refine q_then_r ?_;exact ⟨.tuple #[.slice none 0 0,.int .i64 (rdy s.ls.length s.off p m)],res2 rfl rfl rfl,rfl,rfl⟩
  exfalso;simp [hno] at h
theorem Zf4 {p r:Prop}(k:r)(h:Kq r->p:=by intro k;refine Ze ?_;refine tc_block ?_;exact k.o):p:=h ⟨k⟩
theorem Load_f (A:SP)(d bl:Nat)(svs:List Value)(av:Value)(s:DevS)(p m:Nat)(W:List Nat)(hR:DevR A d bl svs av s)(hoff:s.off=false)(hpm:p+m<=s.ls.length*64)(hW:W=((imgS s).drop p).take m):
    Fn Tryz.prog 247 #[pz d,vn p,vn m] A (λ r B=>∃X,B=A*X/\∃u,r= .tuple #[u,.int .i64 0]/\ X=Sl 1 u m (bys W)):=by
  refine fn_enterW func247 rfl ntmps247 (by simp) ?_;have hpos:=hR.wf.pos;have htop:=hR.wf.top;have hok:rdy s.ls.length s.off p m=0:=(by unfold rdy;rw [hoff,if_neg (by simp),if_neg oqz]);have hWl:W.length=m:=(by rw [hW,List.length_take,List.length_drop,imgS,img_length hR.wf.line];omega);refine Zgf ?_;refine Zf ?_;refine Zca ?_;refine Zbt ?_;refine tl_c rfl (o_call bd193 rfl (ready_f _ d bl s.ls.length s av hR.d hR.wf.pos hR.wf.top p m oqz oqz)) ?_;refine Zex ?_;refine Zo ?_;refine Z5 ?_;refine tc_cond rfl (λ h=> ?_) (sbq ?_)
  . exfalso;simp [hok] at h
  intro h;refine Ze ?_;refine Zo ?_;refine tl_x rfl (o_makeSlice (len:=m) (cap:=m) underlying67 sz5 by5 z5 rfl rfl rfl oqz oqz oqz) ?_;rintro _ _ ⟨b21,rfl,rfl⟩;refine Zf ?_;refine tc_seq ?_;refine Zcm ?_;refine tc_block ?_;refine tc_loop (λ j ρ B=>∃ (k:Nat),k<=m/\ j=m-k/\ ρ 0=(pz d)/\ ρ 1=(vn p)/\ ρ 2=(vn m)/\ ρ 9= .slice (some ⟨b21,0,none⟩) m m/\ ρ 10=(vn k)/\ B=A*pt b21 (cl (bys (W.take k)++List.replicate (m-k) (.int .u8 0)) 5)) (m:=m) ?_ ?_
  . exact ⟨0,by omega,rfl,rfl,rfl,rfl,rfl,rfl,rfl⟩
  intro k ρ B hI;obtain ⟨k,hk,rfl,h0,h1,h2,h9,h10,rfl⟩:=hI;refine tc_env (d:=0) h0 ?_;refine tc_env (d:=1) h1 ?_;refine tc_env (d:=2) h2 ?_;refine tc_env (d:=9) h9 ?_;refine tc_env (d:=10) h10 ?_;refine Zca ?_;refine tv (o_move rfl) ?_;refine Zx ?_;refine tc_cond rfl (λ h=> ?_) (sbq ?_)
  . simp only [decide_eq_true_eq] at h
    have hk':k<m:=(by omega);have hq:(p+k)/64<s.ls.length:=(by omega);have hwl:=hR.wf.line _ (List.getElem_mem hq);have h64:=seen8 hwl;refine Zf4 ?_;refine Zel ?_;refine tv adqz ?_;refine tl_env (d:=27) (v:=(vn (p+k))) rfl ?_;refine Zf ?_;refine Zo ?_;refine Zbg ?_;refine tv (o_loadC p234 rfl (hR.d 0 _ rfl).left) ?_;refine tv (o_move rfl) ?_;refine tv (o_quoN (a:=p+k) (b:=64) rfl rfl oqz) ?_;refine tv (o_indexAddrN (j:=(p+k)/64) underlying234 sz241 rfl rfl hq) ?_;refine tl_c rfl (o_call bd156 rfl (seenR_f hR.left hq)) ?_;rintro _ _ ⟨rfl,rfl⟩;refine tl_c rfl (o_call bd157 rfl (bytes_f _ (seenL s.ls[(p+k)/64]) (hwl.eight _ (seenL_mem hwl)) (hwl.words _ (seenL_mem hwl)))) ?_;rintro u36 _ ⟨_,rfl,rfl⟩;refine tl_have (λ _ _ h=>sl_have h) λ ⟨a2,c2,hv2,hnc2,hl2,hrd2⟩=> ?_
    subst hv2;refine Zf ?_;refine tc_rega mo ?_
    show TA _ _ _ _ 11 (Array.replicate 11 false) _ _
    refine ta_pure (i:=0) (listed':= #[tt,ff,ff,ff,ff,ff,ff,ff,ff,ff,ff]) rfl kqz kqz kqz rfl rfl (o_move rfl) ?_;refine ta_pure (i:=1) (listed':= #[tt,tt,ff,ff,ff,ff,ff,ff,ff,ff,ff]) rfl kqz kqz kqz rfl rfl (o_move rfl) ?_;refine ta_pure (i:=2) (listed':= #[tt,tt,tt,ff,ff,ff,ff,ff,ff,ff,ff]) rfl kqz kqz kqz rfl rfl (o_move rfl) ?_;refine ta_pure (i:=3) (listed':= #[tt,tt,tt,tt,ff,ff,ff,ff,ff,ff,ff]) rfl kqz kqz kqz rfl rfl (o_slice (l:=k) (h:=m) underlying67 sz5 rfl (bnd_nat (r:=k) rfl) bnd_none oqz oqz) ?_;refine ta_pure (i:=4) (listed':= #[tt,tt,tt,tt,tt,ff,ff,ff,ff,ff,ff]) rfl kqz kqz kqz rfl rfl (o_move rfl) ?_;refine ta_pure (i:=5) (listed':= #[tt,tt,tt,tt,tt,tt,ff,ff,ff,ff,ff]) rfl kqz kqz kqz rfl rfl (o_move rfl) ?_;refine ta_pure (i:=6) (listed':= #[tt,tt,tt,tt,tt,tt,tt,ff,ff,ff,ff]) rfl kqz kqz kqz rfl rfl (o_remN (a:=p+k) (b:=64) rfl rfl oqz) ?_;refine ta_pure (i:=7) (listed':= #[tt,tt,tt,tt,tt,tt,tt,tt,ff,ff,ff]) rfl kqz kqz kqz rfl rfl (o_slice (l:=(p+k)%64) (h:=64) underlying67 sz5 rfl (bnd_nat (r:=(p+k)%64) rfl) bnd_none oqz oqz) ?_;obtain ⟨b2,o2,rfl,hcs2⟩:=hrd2.some (by rw [bys_length];omega);have hlt2:(p+k)%64<c2:=(by omega)
    have hsub:Rd (A*pt b21 (cl (bys (W.take k)++List.replicate (m-k) (.int .u8 0)) 5)*Sl 1 (.slice (some ⟨b2,o2,none⟩) 64 c2) 64 (bys (lb (seenL s.ls[(p+k)/64])))) (cutAddr (some ⟨b2,o2,none⟩) c2 ((p+k)%64) 1) (bys ((lb (seenL s.ls[(p+k)/64])).drop ((p+k)%64))):=by
      rw [cut_lt hlt2]
      refine rd_cells (hcs2.sub ((p+k)%64*1) (64-(p+k)%64) ?_)
      unfold bys
      rw [Nat.mul_one,List.map_drop,List.take_of_length_le]
      rw [List.length_drop,List.length_map];omega
    refine ta_one (i:=8) kqz ?_;refine oa_x (i:=8) (listed':= #[tt,tt,tt,tt,tt,tt,tt,tt,tt,ff,ff]) rfl rfl rfl (o_copy (b:=b21) (off:=k) (dl:=m-k) (dc:=m-k) (m:=min (64-(p+k)%64) (m-k)) (l':=bys (W.take (k+min (64-(p+k)%64) (m-k)))++List.replicate (m-(k+min (64-(p+k)%64) (m-k))) (.int .u8 0)) underlying67 sz5 (by show Value.slice (cutAddr (some ⟨b21,0,none⟩) m k 1) (m-k) (m-k)=_;rw [cut_lt hk',Nat.zero_add,Nat.mul_one]) rfl hsub (by rw [bys_length,List.length_drop];omega) rfl bys_oneC (by rw [List.length_append,bys_length,List.length_take,List.length_replicate];omega) (load_step hR.wf.line hW hpm hk' rfl hq _) (upd_left upd_here)) ?_;rintro _ _ ⟨rfl,rfl⟩;refine ta_pre (λ _ _ h=>h.left) ?_;refine ta_pure (i:=9) (listed':= #[tt,tt,tt,tt,tt,tt,tt,tt,tt,tt,ff]) rfl kqz kqz kqz rfl rfl adqz ?_;refine ta_pure (i:=10) (listed':=(Array.replicate 11 true)) rfl kqz kqz kqz rfl rfl (o_assign rfl) ?_;refine ta_done kqz ?_;refine q_block_n (q_then_n ?_);exact ⟨_,by omega,k+min (64-(p+k)%64) (m-k),by omega,rfl,rfl,rfl,rfl,rfl,rfl,rfl⟩
  intro h;refine Ze7 ?_;refine Zf7 ?_;obtain rfl:k=m:=by omega
  rw [List.take_of_length_le oqz,Nat.sub_self]
  exact ⟨.tuple #[.slice (some ⟨b21,0,none⟩) k k,.int .i64 0],_,res2 rfl rfl rfl,λ _ _ h=>sl_new (k:=1) (n:=k) (cap:=k) (xs:=bys W) h oqz (by simp [bys_length,hWl]) (List.take_of_length_le (by simp [bys_length,hWl])|>.trans (by simp)),_,rfl,_,rfl,rfl⟩
theorem parts_len:∀{vs:List Value} {ls:List (List Nat)} {R:SP} {g:Gh} {w:World},sat g w (R*Parts vs ls)->vs.length=ls.length
  |[],[],_,_,_,_=>rfl
  |v::vs,x::ls,R,g,w,h=>by
    have:sat g w (R*Sl 1 v x.length (bys x)*Parts vs ls):=(by rw [star_swap,star_assoc];exact h);rw [List.length_cons,List.length_cons,parts_len this]
  |[],_::_,_,_,_,h=>by
    obtain ⟨_,⟨x,y,_,_,_,hy⟩,_⟩:=h.hp;exact hy.1.elim
  |_::_,[],_,_,_,h=>by
    obtain ⟨_,⟨x,y,_,_,_,hy⟩,_⟩:=h.hp;exact hy.1.elim
def ctS (i:Nat)(s:DevS):List (List Nat):=(s.ls.getD i ⟨[],0⟩).st.map lb
section
variable {P:Program} {n:Nat} {ρ:Env} {A:SP} {dst:Option Tmp} {ty:TypeId} {pos:String} {after:Array Edge} {gd:Option (Nat×Bool)}
theorem o_sliceLt {t e:TypeId}{x:Operand}{lo hi:Option Operand}{b o:Nat}{len cap l h k:Nat}(hu:P.underlying t=some (.slice e))(hk:szE P e=some k)(hx:ev n ρ x= .slice (some ⟨b,o,none⟩) len cap)
    (hl:bnd n ρ lo 0 l) (hh:bnd n ρ hi len h) (h1:l<=h) (h2:h<=cap) (h3:l<cap):
    OpV P n ρ A ⟨dst,.slice t x lo hi none,ty,pos,after,gd⟩ (.slice (some ⟨b,o+l*k,none⟩) (h-l) (cap-l)):=by
  have:=o_slice (A:=A) (dst:=dst) (ty:=ty) (pos:=pos) (after:=after) (gd:=gd) hu hk hx hl hh h1 h2
  rwa [cut_lt h3] at this
end
theorem lcs_set_sv' {vs:List Value}{ls:List LineS}{i:Nat}{v:Value}(h:vs.length=ls.length)(hi:i<ls.length):(lcs vs ls).set (i*2) v=lcs (vs.set i v) ls:=by
  have:=lcs_set_sv (v:=v) ls[i] h hi rfl
  rwa [set_getElem hi] at this
theorem Fence_f (F:SP)(d:Nat)(s:DevS):
    Fn Tryz.prog 209 #[pz d] (F*Dev d s) (λ r B=>r= .int .i64 (fe s).1/\ B=F*Dev d (fe s).2):=by
  refine fn_enterW func209 rfl ntmps209 (by simp) ?_;refine tc_dev λ hw bl svs av kvs hsv hkv=> ?_
  have hpos:=hw.pos;have htop:=hw.top;refine Zf8 ?_;refine tl_c rfl (o_call bd193 rfl (ready_f _ d bl s.ls.length s av dev_cells hpos htop 0 0 oqz oqz)) ?_;refine Zex ?_;refine Zo ?_;refine Z5 ?_;refine tc_cond rfl (λ h=> ?_) (λ h=> ?_)
  . rw [rdy00] at h
    have ho:s.off=true:=by
      cases ho:s.off with
      |true=>rfl
      |false=>rw [ho] at h;simp at h
    refine Zo ?_;refine Zbp ?_;refine q_then_r ?_;exact ⟨.int .i64 5,_,res1 rfl (by show Value.int .i64 (rdy _ _ _ _)=_;rw [rdy00,ho];rfl),dev_back hw hsv hkv,by unfold fe;rw [if_pos ho],by unfold fe;rw [if_pos ho]⟩
  rw [rdy00] at h
  have ho:s.off=false:=by
    cases ho:s.off with
    |false=>rfl
    |true=>rw [ho] at h;simp at h
  refine Ze ?_;refine Zca ?_;refine Zbg ?_;refine Zev ?_;refine Zg2 ?_;refine tc_loop (λ k ρ B=>∃ (i:Nat) (svs':List Value),i<=s.ls.length/\ k=s.ls.length-i/\ svs'.length=s.ls.length/\ ρ 0=(pz d)/\ ρ 15= .int .i64 s.ls.length/\ ρ 16= .int .i64 i/\ B=F*DevC d bl svs' av kvs { s with ls:=mp fenceL i s.ls }) (m:=s.ls.length) ?_ ?_
  . exact ⟨0,svs,by omega,rfl,hsv,rfl,rfl,rfl,by rw [mp_zero]⟩
  intro k ρ B hI;obtain ⟨i,svs',hi,rfl,hsv',h0,h15,h16,rfl⟩:=hI;refine tc_env (d:=0) h0 ?_;refine tc_env (d:=15) h15 ?_;refine tc_env (d:=16) h16 ?_;refine Zb9 ?_;refine tc_cond rfl (λ h=> ?_) (sbq ?_)
  . simp only [decide_eq_true_eq] at h
    have hi':i<s.ls.length:=(by omega);have hiG:i<(mp fenceL i s.ls).length:=(by rw [mp_length];exact hi');have hsG:svs'.length=(mp fenceL i s.ls).length:=(by rw [mp_length];exact hsv');obtain ⟨R,hf1,hf2⟩:=devC_focus (d:=d) (bl:=bl) (kvs:=kvs) (av:=av) (s:={ s with ls:=mp fenceL i s.ls }) hsG hiG;refine tc_eq (hf1 F) ?_;refine tc_have (λ _ _ h=>sl_have' rfl h) λ ⟨a',c',hv,hn',hl',hrd⟩=> ?_
    have hwl:WfL s.ls[i]:=hw.line _ (List.getElem_mem _);have hat:(mp fenceL i s.ls)[i]=s.ls[i]:=mp_at fenceL hi'
    simp only [hat] at hv hn' hl' hrd ⊢
    have hcell:(lcs svs' (mp fenceL i s.ls))[0+i*2+0]? =some (.slice a' s.ls[i].st.length c'):=(by rw [Nat.zero_add,Nat.add_zero,lcs_sv hsG oqz,hv]);have hmk:(lcs svs' (mp fenceL i s.ls))[0+i*2+1]? =some (.int .i64 s.ls[i].mark):=(by rw [Nat.zero_add,lcs_mark hsG hiG,hat]);have hlen:0<s.ls[i].st.length:=List.length_pos_iff.2 hwl.ne;have hsm:=hwl.small;have hmlo:=hwl.lo;have hmhi:=hwl.hi;have hglen:(mp fenceL i s.ls).length=s.ls.length:=mp_length _ _ _;refine Zbe ?_;refine Zo ?_;refine Zf ?_;refine Zo ?_;refine Zbg ?_;refine Ze1 ?_;refine Zfb ?_;refine Zo ?_;refine Zeh ?_;refine tv (o_load p3 rfl sq3z hmk) ?_;refine Zhu ?_;refine tc_cond rfl (λ h=> ?_) (sbq ?_)
    . simp only [decide_eq_true_eq] at h
      obtain ⟨m,hm⟩:=Int.eq_ofNat_of_zero_le (show 0<=s.ls[i].mark by omega);have hmn:m<s.ls[i].st.length:=(by omega);obtain ⟨b,o,rfl,hcs⟩:=hrd.some (by rw [hl'];omega);have hfl:fenceL s.ls[i]=⟨s.ls[i].st.drop m,-1⟩:=(by unfold fenceL;rw [if_pos oqz,hm];rfl);have hdl:(stc (s.ls[i].st.drop m)).length=(s.ls[i].st.length-m)*8:=(by rw [stc_length (λ x hx=>hwl.eight x (List.mem_of_mem_drop hx)),List.length_drop]);have hsub:=hcs.sub (m*8) ((s.ls[i].st.length-m)*8) (show ((stc s.ls[i].st).drop (m*8)).take ((s.ls[i].st.length-m)*8)=stc (s.ls[i].st.drop m) by rw [stc_drop hwl.eight m oqz,List.take_of_length_le oqz]);have hcut:=cut_lt (b:=b) (o:=o) (k:=8) (show m<c' by omega)
      have hoc:(stc (s.ls[i].st.drop m)).all oneC=true:=by
        rw [List.all_eq_true];intro x hx
        simp only [stc,List.mem_flatMap,wds,List.mem_map] at hx
        obtain ⟨_,_,_,_,rfl⟩:=hx
        rfl
      refine tc_seq ?_;refine tc_rega mo ?_
      show TA _ _ _ _ 14 (Array.replicate 14 false) _ _
      refine ta_pure (i:=0) (listed':= #[tt,ff,ff,ff,ff,ff,ff,ff,ff,ff,ff,ff,ff,ff]) rfl kqz kqz kqz rfl rfl (o_move rfl) ?_;refine ta_pure (i:=1) (listed':= #[tt,tt,ff,ff,ff,ff,ff,ff,ff,ff,ff,ff,ff,ff]) rfl kqz kqz kqz rfl rfl (o_move rfl) ?_;refine ta_pure (i:=2) (listed':= #[tt,tt,tt,ff,ff,ff,ff,ff,ff,ff,ff,ff,ff,ff]) rfl kqz kqz kqz rfl rfl (o_nilCheck rfl) ?_;refine ta_pure (i:=3) (listed':= #[tt,tt,tt,tt,ff,ff,ff,ff,ff,ff,ff,ff,ff,ff]) rfl kqz kqz kqz rfl rfl (o_fieldAddr (o:=0) underlying241 rfl rfl sz239 rfl) ?_;refine ta_pure (i:=5) (listed':= #[tt,tt,tt,tt,ff,tt,ff,ff,ff,ff,ff,ff,ff,ff]) rfl kqz kqz kqz rfl rfl (o_move rfl) ?_;refine ta_pure (i:=6) (listed':= #[tt,tt,tt,tt,ff,tt,tt,ff,ff,ff,ff,ff,ff,ff]) rfl kqz kqz kqz rfl rfl (o_nilCheck rfl) ?_;refine ta_pure (i:=7) (listed':= #[tt,tt,tt,tt,ff,tt,tt,tt,ff,ff,ff,ff,ff,ff]) rfl kqz kqz kqz rfl rfl (o_fieldAddr (o:=1) underlying241 rfl rfl sz3 rfl) ?_;refine ta_two (i:=4) (j:=8) kqz ?_ ?_
      . skip
        refine oa_v (i:=4) (listed':= #[tt,tt,tt,tt,tt,tt,tt,tt,ff,ff,ff,ff,ff,ff]) rfl rfl rfl (o_load p239 rfl sq3z hcell) ?_;refine ta_one (i:=8) kqz ?_;refine oa_v (i:=8) (listed':= #[tt,tt,tt,tt,tt,tt,tt,tt,tt,ff,ff,ff,ff,ff]) rfl rfl rfl (o_load p3 rfl sq3z (hmk.trans (by rw [hm]))) ?_;refine ta_pure (i:=9) (listed':= #[tt,tt,tt,tt,tt,tt,tt,tt,tt,tt,ff,ff,ff,ff]) rfl kqz kqz kqz rfl rfl (o_sliceLt (l:=m) (h:=s.ls[i].st.length) underlying239 sz238 rfl (bnd_nat (r:=m) rfl) bnd_none oqz oqz oqz) ?_;refine ta_one (i:=10) kqz ?_;refine oa_c (i:=10) (listed':= #[tt,tt,tt,tt,tt,tt,tt,tt,tt,tt,tt,ff,ff,ff]) rfl rfl rfl (o_call bd265 rfl (CloneS_f _ (s.ls[i].st.length-m) (c'-m) (stc (s.ls[i].st.drop m)) ⟨b,o+m*8,none⟩ (rd_cells hsub) hdl hoc oqz)) ?_;rintro u40 _ rfl;refine ta_have (λ _ _ h=>sl_have h) λ ⟨_,_,hu,_,_,_⟩=> ?_
        have hu1:oneC u40=true:=(by rw [hu];rfl);refine ta_pre (λ _ _ h=>h.drop2) ?_;refine ta_pure (i:=11) (listed':= #[tt,tt,tt,tt,tt,tt,tt,tt,tt,tt,tt,tt,ff,ff]) rfl kqz kqz kqz rfl rfl (o_nilCheck rfl) ?_;refine ta_pure (i:=12) (listed':= #[tt,tt,tt,tt,tt,tt,tt,tt,tt,tt,tt,tt,tt,ff]) rfl kqz kqz kqz rfl rfl (o_fieldAddr (o:=0) underlying241 rfl rfl sz239 rfl) ?_;refine ta_one (i:=13) kqz ?_;refine oa_u (i:=13) (listed':=(Array.replicate 14 true)) rfl rfl rfl (o_store (l:=lcs svs' (mp fenceL i s.ls)) (l':=lcs (svs'.set i u40) (mp fenceL i s.ls)) sz239 rfl rfl hu1 (by rw [lcs_length hsG,hglen];omega) (by rw [Nat.zero_add,Nat.add_zero];exact lcs_set_sv' hsG hiG) sq5z) ?_;refine Zfs ?_;refine Zd6 ?_;refine Zeh ?_;refine tl_u rfl (o_store (l:=lcs (svs'.set i u40) (mp fenceL i s.ls)) (l':=lcs (svs'.set i u40) ((mp fenceL i s.ls).set i (fenceL s.ls[i]))) sz3 rfl rfl rfl (by rw [lcs_length (by rw [List.length_set];exact hsG),hglen];omega) (by rw [Nat.zero_add];have:=lcs_set_mark (fenceL s.ls[i]) (vs:=svs'.set i u40) (by rw [List.length_set];exact hsG) hiG;rw [hfl] at this ⊢;exact this) sq5z) ?_;refine Zc9 ?_;have hfin:=hf2 F u40 (fenceL s.ls[i]);have hdl2:(s.ls[i].st.drop m).length=s.ls[i].st.length-m:=List.length_drop;rw [show (fenceL s.ls[i]).st=s.ls[i].st.drop m by rw [hfl],hdl2] at hfin
        refine tl_eq hfin ?_
        simp only [mp_set fenceL hi']
        have hsvN:(svs'.set i u40).length=s.ls.length:=(by rw [List.length_set];exact hsv');refine Zgj ?_;exact ⟨_,by omega,i+1,_,by omega,rfl,hsvN,rfl,rfl,rfl,rfl⟩
      . skip
        refine oa_v (i:=8) (listed':= #[tt,tt,tt,tt,ff,tt,tt,tt,tt,ff,ff,ff,ff,ff]) rfl rfl rfl (o_load p3 rfl sq3z (hmk.trans (by rw [hm]))) ?_;refine ta_one (i:=4) kqz ?_;refine oa_v (i:=4) (listed':= #[tt,tt,tt,tt,tt,tt,tt,tt,tt,ff,ff,ff,ff,ff]) rfl rfl rfl (o_load p239 rfl sq3z hcell) ?_;refine ta_pure (i:=9) (listed':= #[tt,tt,tt,tt,tt,tt,tt,tt,tt,tt,ff,ff,ff,ff]) rfl kqz kqz kqz rfl rfl (o_sliceLt (l:=m) (h:=s.ls[i].st.length) underlying239 sz238 rfl (bnd_nat (r:=m) rfl) bnd_none oqz oqz oqz) ?_;refine ta_one (i:=10) kqz ?_;refine oa_c (i:=10) (listed':= #[tt,tt,tt,tt,tt,tt,tt,tt,tt,tt,tt,ff,ff,ff]) rfl rfl rfl (o_call bd265 rfl (CloneS_f _ (s.ls[i].st.length-m) (c'-m) (stc (s.ls[i].st.drop m)) ⟨b,o+m*8,none⟩ (rd_cells hsub) hdl hoc oqz)) ?_;rintro u40 _ rfl;refine ta_have (λ _ _ h=>sl_have h) λ ⟨_,_,hu,_,_,_⟩=> ?_
        have hu1:oneC u40=true:=(by rw [hu];rfl);refine ta_pre (λ _ _ h=>h.drop2) ?_;refine ta_pure (i:=11) (listed':= #[tt,tt,tt,tt,tt,tt,tt,tt,tt,tt,tt,tt,ff,ff]) rfl kqz kqz kqz rfl rfl (o_nilCheck rfl) ?_;refine ta_pure (i:=12) (listed':= #[tt,tt,tt,tt,tt,tt,tt,tt,tt,tt,tt,tt,tt,ff]) rfl kqz kqz kqz rfl rfl (o_fieldAddr (o:=0) underlying241 rfl rfl sz239 rfl) ?_;refine ta_one (i:=13) kqz ?_;refine oa_u (i:=13) (listed':=(Array.replicate 14 true)) rfl rfl rfl (o_store (l:=lcs svs' (mp fenceL i s.ls)) (l':=lcs (svs'.set i u40) (mp fenceL i s.ls)) sz239 rfl rfl hu1 (by rw [lcs_length hsG,hglen];omega) (by rw [Nat.zero_add,Nat.add_zero];exact lcs_set_sv' hsG hiG) sq5z) ?_;refine Zfs ?_;refine Zd6 ?_;refine Zeh ?_;refine tl_u rfl (o_store (l:=lcs (svs'.set i u40) (mp fenceL i s.ls)) (l':=lcs (svs'.set i u40) ((mp fenceL i s.ls).set i (fenceL s.ls[i]))) sz3 rfl rfl rfl (by rw [lcs_length (by rw [List.length_set];exact hsG),hglen];omega) (by rw [Nat.zero_add];have:=lcs_set_mark (fenceL s.ls[i]) (vs:=svs'.set i u40) (by rw [List.length_set];exact hsG) hiG;rw [hfl] at this ⊢;exact this) sq5z) ?_;refine Zc9 ?_;have hfin:=hf2 F u40 (fenceL s.ls[i]);have hdl2:(s.ls[i].st.drop m).length=s.ls[i].st.length-m:=List.length_drop;rw [show (fenceL s.ls[i]).st=s.ls[i].st.drop m by rw [hfl],hdl2] at hfin
        refine tl_eq hfin ?_
        simp only [mp_set fenceL hi']
        have hsvN:(svs'.set i u40).length=s.ls.length:=(by rw [List.length_set];exact hsv');refine Zgj ?_;exact ⟨_,by omega,i+1,_,by omega,rfl,hsvN,rfl,rfl,rfl,rfl⟩
    intro h;refine Zem ?_;have hfl:fenceL s.ls[i]=s.ls[i]:=(by unfold fenceL;rw [if_neg oqz]);have hun:=(hf1 F).symm
    simp only [hat] at hun
    refine tl_eq hun ?_;rw [←mp_same fenceL hi' hfl]
    have hsvN:=hsv';refine Zgj ?_;exact ⟨_,by omega,i+1,_,by omega,rfl,hsvN,rfl,rfl,rfl,rfl⟩
  intro h;refine Ze7 ?_;obtain rfl:i=s.ls.length:=by omega
  rw [mp_map]
  refine tl_pre (dev_back (s:=fenceS s) (fenceS_wf hw) (by simp [fenceS];exact hsv') hkv) ?_;refine tl_c rfl (o_call bd266 rfl (done_f F d (fenceS s))) ?_;refine Zgk ?_;exact ⟨.int .i64 (doneE (fenceS s)),_,res1 rfl rfl,λ _ _ h=>h,by unfold fe;rw [if_neg (by simp [ho])],by unfold fe;rw [if_neg (by simp [ho])]⟩
def reps (zl:List Value):Nat->List Value
  |0=>[]
  |n+1=>zl++reps zl n
theorem reps_length (zl:List Value):∀n,(reps zl n).length=n*zl.length
  |0=>by simp [reps]
  |n+1=>by rw [reps,List.length_append,reps_length zl n,Nat.add_mul];omega
theorem reps_at (zl:List Value)(hk:0<zl.length):∀ (n j:Nat),j<n*zl.length->(reps zl n)[j]? =zl[j%zl.length]?
  |0,j,h=>by omega
  |n+1,j,h=>by
    rw [reps]
    rcases Nat.lt_or_ge j zl.length with h1|h1
    . rw [List.getElem?_append_left h1,Nat.mod_eq_of_lt h1]
    rw [List.getElem?_append_right h1,reps_at zl hk n (j-zl.length) (by rw [Nat.add_mul] at h;omega),Nat.mod_eq_sub_mod h1]
section
variable {P:Program} {n:Nat} {ρ:Env} {A:SP} {dst:Option Tmp} {ty:TypeId} {pos:String} {after:Array Edge} {gd:Option (Nat×Bool)}
theorem o_makeSliceK {t e:TypeId}{x y:Operand}{len cap k:Nat}{bytes:Nat}{k1 k2:IntKind}{zl:List Value}(hu:P.underlying t=some (.slice e))(hk:szE P e=some k)(hb:bytesE P e=some bytes)(hz:zeroE P e=some (.agg zl.toArray))(hzl:zl.length=k)(hk0:0<k)
    (hx:ev n ρ x= .int k1 len) (hy:ev n ρ y= .int k2 cap) (h1:len<=cap) (h2:cap*bytes<=140737488355328) (h3:cap<=140737488355328) (h4:0<cap):
    OpX P n ρ A ⟨dst,.makeSlice t x y,ty,pos,after,gd⟩ (NewS A (reps zl cap) e len cap):=λ g w hs=>by
  refine ⟨_,w.alloc (cl (reps zl cap) e),_, ?_,hs.alloc _,w.heap.size,rfl,rfl⟩;have w1:IntKind.i64.wrap (len:Int)=len:=(by rw [IntWalk.i64_in _ oqz]);have w2:IntKind.i64.wrap (cap:Int)=cap:=(by rw [IntWalk.i64_in _ oqz]);obtain ⟨i,hi,hib⟩:=run_bytes (w:=w) hb;have p47:(2:Nat)^47=140737488355328:=(by decide);have p48:(2:Int)^48=281474976710656:=(by decide)
  simp only [execOp,hx,hy]
  rw [run_bind (w':=w.alloc (cl (reps zl cap) e)) (a:= .slice (some ⟨w.heap.size,0,none⟩) len cap)]
  . rfl
  unfold Instr.makeSlice
  rw [run_bind (run_und hu)]
  simp only []
  rw [run_bind (w':=w) (a:=(len:Int)) (by rfl),run_bind (w':=w) (a:=(cap:Int)) (by rfl),run_bind hi]
  simp only [w1,w2,hib,p48]
  have hcb:(bytes:Int)*(cap:Int)<=140737488355328:=by
    have:(bytes:Int)*(cap:Int)=((cap*bytes:Nat):Int):=(by rw [Nat.mul_comm];simp);rw [this];omega
  rw [if_neg (by simp;omega)]
  have ask:(askRoom (((cap:Nat):Int).toNat*bytes)).run P w= .ok () w:=by
    unfold askRoom roomBytes
    rw [p47,if_neg (by simp;omega)];rfl
  rw [run_bind ask,run_bind (run_size hk)]
  have h0:cap*k≠0:=Nat.mul_ne_zero oqz oqz
  simp only [Int.toNat_natCast,h0,if_false]
  rw [run_bind (run_zeroV hz)]
  have hrow:((Array.range (cap*k)).map λ x=>(Value.agg zl.toArray).cells[x%(Value.agg zl.toArray).cells.size]!)=(reps zl cap).toArray:=by
    simp only [Value.cells]
    apply Array.ext'
    rw [Array.toList_map]
    apply List.ext_getElem?
    intro j
    simp only [Array.toList_range,List.getElem?_map,List.size_toArray]
    subst hzl
    rcases Nat.lt_or_ge j (cap*zl.length) with h|h
    . rw [reps_at zl hk0 cap j h]
      have hm:j%zl.length<zl.length:=Nat.mod_lt _ hk0
      simp [h,hm]
    rw [List.getElem?_eq_none (by simpa using h),List.getElem?_eq_none (by rw [reps_length];exact h)];rfl
  show (do let a←newRow e ((Array.range (cap*k)).map λ x=>(Value.agg zl.toArray).cells[x%(Value.agg zl.toArray).cells.size]!);pure (Value.slice (some a) ((len:Nat):Int).toNat ((cap:Nat):Int).toNat):Sem Value).run P w=_
  rw [hrow,run_bind run_newRow]
  simp [pure,Int.toNat_natCast]
end
def fitsB (p:Int):Bool:=decide (64<=p/\ p<=4194304/\ p%64=0)
def blank (n:Nat):DevS:=⟨List.replicate n ⟨[],0⟩,0,[],0,false⟩
def zline:LineS:=⟨[List.replicate 8 0],-1⟩
def newS (n:Nat):DevS:=⟨List.replicate n zline,0,[],0,false⟩
theorem zline_wf:WfL zline:=⟨by simp [zline],by simp [zline,Eight],by simp [zline],by simp [zline],by simp [zline],by simp [zline]⟩
theorem newS_wf {n:Nat}(h:0<n)(h2:n<=65536):WfD (newS n):=⟨by simpa [newS] using h,by simpa [newS] using h2,λ l hl=>by
  simp only [newS,List.mem_replicate] at hl;rw [hl.2];exact zline_wf,by simp [newS],by simp [newS],by simp [newS]⟩
theorem lcs_blank:∀n,lcs (List.replicate n (.slice none 0 0)) (List.replicate n ⟨[],0⟩)=reps [.slice none 0 0,.int .i64 0] n
  |0=>rfl
  |n+1=>by simp only [List.replicate_succ,lcs,reps,List.cons_append,List.nil_append];rw [lcs_blank n]
theorem linesR_blank:∀ (n:Nat) {R:SP} {g:Gh} {w:World},sat g w R->sat g w (R*LinesR (List.replicate n (.slice none 0 0)) (List.replicate n ⟨[],0⟩))
  |0,R,g,w,h=>by show sat g w (R*emp);rw [star_emp];exact h
  |n+1,R,g,w,h=>by
    simp only [List.replicate_succ,LinesR]
    rw [←star_assoc]
    exact sl_nil (k:=8) (linesR_blank n h)
theorem blank_dev {F:SP}{d bl n:Nat}{g:Gh}{w:World}(hs:sat g w (F*pt bl (cl (reps [.slice none 0 0,.int .i64 0] n) 241)*pt d (cl [.slice (some ⟨bl,0,none⟩) n n,.int .i64 0,.slice none 0 0,.int .i64 0,.bool false] 236))):
    sat g w (F*DevC d bl (List.replicate n (.slice none 0 0)) (.slice none 0 0) [] (blank n)):=by
  rw [devC_eq]
  unfold ArmsR
  have h1:=sl_nil (k:=2) (linesR_blank n hs);rw [←lcs_blank] at h1
  refine h1.perm ?_
  simp only [blank,dcs,List.length_replicate,acs,KeepsR,List.length_nil,star_emp]
  ac_rfl
theorem mp_blank (n:Nat):mp (λ _=>zline) n (List.replicate n ⟨[],0⟩)=(newS n).ls:=by
  have:=mp_map (λ _=>zline) (List.replicate n ⟨[],0⟩);rw [List.length_replicate] at this
  rw [this];simp [newS]
theorem Zc5 {p r:Prop}(k:r)(h:Kq r->p:=by intro k;refine Zp ?_;refine tk ?_;exact k.o):p:=h ⟨k⟩
theorem fits_f (A:SP)(p:Int)(hp: -9223372036854775808<=p/\ p<=9223372036854775807):
    Fn Tryz.prog 244 #[.int .i64 p] A (λ r B=>r= .bool (fitsB p)/\ A=B):=by
  refine fn_enter func244 rfl ntmps244 (by simp) ?_;refine Zha ?_;refine tv (o_geq rfl rfl) ?_;refine tv (o_move rfl) ?_;refine tl_bool (d:=5) rfl (sbq ?_) (sbq ?_)
  . intro h;refine tv (o_move rfl) ?_;refine tv (o_leq rfl rfl) ?_;refine Zb3 ?_;refine tl_bool (d:=9) rfl (sbq ?_) (sbq ?_)
    . intro h;refine tv (o_move rfl) ?_;refine tv (o_remI rfl rfl oqz) ?_;refine tv (o_eqi rfl rfl) ?_;refine Zc2 ?_;exact ⟨.bool (decide (p%64=0)),res1 rfl rfl,by unfold fitsB;congr 1;rw [decide_eq_decide];omega,rfl⟩
    intro h;refine Zc5 ?_;refine Zc2 ?_;exact ⟨.bool false,res1 rfl rfl,by unfold fitsB;rw [decide_eq_false oqz],rfl⟩
  intro h;refine Zp ?_;refine Zb3 ?_;refine Zc5 ?_;refine Zc2 ?_;exact ⟨.bool false,res1 rfl rfl,by unfold fitsB;rw [decide_eq_false oqz],rfl⟩
theorem New_f (F:SP)(n:Nat)(hn:0<n)(hn2:n<=65536):
    Fn Tryz.prog 169 #[vn (n*64)] (F) (λ r B=>∃d,r= .tuple #[pz d,.int .i64 0]/\ B=F*Dev d (newS n)):=by
  refine fn_enterW func169 rfl ntmps169 (by simp) ?_;have hfit:fitsB ((n*64:Nat):Int)=true:=(by unfold fitsB;simp;omega);refine Zgf ?_;refine Zf ?_;refine Zca ?_;refine tl_c rfl (o_call bd244 rfl (fits_f F _ oqz)) ?_;refine Zb1 ?_;refine nq ?_;refine tc_cond rfl (λ h=> ?_) (sbq ?_)
  . exfalso;rw [hfit] at h;exact absurd h (by decide)
  intro h;refine Ze ?_;refine Zo ?_;refine tv (o_quoN (a:=n*64) (b:=64) rfl rfl oqz) ?_;refine tl_env (d:=10) (v:=(vn n)) (by show Value.int .i64 ((n*64/64:Nat):Int)=_;rw [Nat.mul_div_cancel _ (by decide)]) ?_;refine tl_x rfl (o_makeSliceK (len:=n) (cap:=n) underlying234 sz241 by241 z241 rfl (by decide) rfl rfl oqz oqz oqz hn) ?_;rintro _ _ ⟨b11,rfl,rfl⟩;refine tv (o_buildS underlying236 z236 (pl236 underlying236) rfl rfl) ?_;refine tl_x rfl (o_box rfl rfl) ?_;rintro _ _ ⟨b13,rfl,rfl⟩;refine tl_pre (λ _ _ h=>blank_dev h) ?_;refine Zf ?_;refine Zca ?_;refine Zbg ?_;refine Zev ?_;refine Zg2 ?_;refine tc_loop (λ k ρ B=>∃ (i:Nat) (svs':List Value),i<=n/\ k=n-i/\ svs'.length=n/\ ρ 4=(pz b13)/\ ρ 18= .int .i64 n/\ ρ 19= .int .i64 i/\ B=F*DevC b13 b11 svs' (.slice none 0 0) [] { blank n with ls:=mp (λ _=>zline) i (blank n).ls }) (m:=n) ?_ ?_
  . exact ⟨0,List.replicate n (.slice none 0 0),by omega,rfl,by simp,rfl,by show Value.int .i64 ((List.replicate n (⟨[],0⟩:LineS)).length:Int)=_;rw [List.length_replicate],rfl,by rw [mp_zero]⟩
  intro k ρ B hI;obtain ⟨i,svs',hi,rfl,hsv',h4,h18,h19,rfl⟩:=hI;refine tc_env (d:=4) h4 ?_;refine tc_env (d:=18) h18 ?_;refine tc_env (d:=19) h19 ?_;refine Zb9 ?_;refine tc_cond rfl (λ h=> ?_) (sbq ?_)
  . simp only [decide_eq_true_eq] at h
    have hi':i<(blank n).ls.length:=(by simp [blank];omega);have hbl:(blank n).ls.length=n:=(by simp [blank]);have hglen:(mp (λ _=>zline) i (blank n).ls).length=n:=(by rw [mp_length,hbl]);have hiG:i<(mp (λ _=>zline) i (blank n).ls).length:=(by omega);have hsG:svs'.length=(mp (λ _=>zline) i (blank n).ls).length:=(by omega);obtain ⟨R,hf1,hf2⟩:=devC_focus (d:=b13) (bl:=b11) (kvs:=[]) (av:= .slice none 0 0) (s:={ blank n with ls:=mp (λ _=>zline) i (blank n).ls }) hsG hiG;refine tc_eq (hf1 F) ?_
    simp only [hglen]
    refine Zbe ?_;refine Zo ?_;refine Zf ?_;refine Zd6 ?_;refine Zbg ?_;refine Ze1 ?_;refine tv (o_buildA (vs:=[]) underlying238 sz141 z238 rfl rfl rfl (Nat.zero_le _) rfl) ?_;refine tl_x rfl (o_buildSliceK (l:=wds (List.replicate 8 0)) underlying239 sz238 z238 rfl rfl (by decide)) ?_;rintro _ _ ⟨b28,rfl,rfl⟩;refine tv (o_buildS (l:=[.slice (some ⟨b28,0,none⟩) 1 1,.int .i64 (-1)]) underlying241 z241 (pl241 underlying241) rfl rfl) ?_;refine tv (o_indexAddrN (j:=i) underlying234 sz241 rfl rfl oqz) ?_;refine tl_u rfl (o_storeN (l:=lcs svs' (mp (λ _=>zline) i (blank n).ls)) (l':=lcs (svs'.set i (.slice (some ⟨b28,0,none⟩) 1 1)) ((mp (λ _=>zline) i (blank n).ls).set i zline)) sz241 rfl rfl rfl rfl (by rw [lcs_length hsG,hglen];omega) (by rw [Nat.zero_add];exact lcs_set (l:=zline) hsG hiG) sq5z) ?_;refine tl_pre (λ _ _ h=>h.newline (by rfl)) ?_;have hfin:=hf2 F (.slice (some ⟨b28,0,none⟩) 1 1) zline
    simp only [hglen] at hfin
    refine tl_eq hfin ?_
    simp only [mp_set (λ _=>zline) hi']
    refine Zc9 ?_;refine Zgj ?_;exact ⟨_,by omega,i+1,_,by omega,rfl,by rw [List.length_set];exact hsv',rfl,rfl,rfl,rfl⟩
  intro h;refine Ze7 ?_;refine Zf7 ?_;obtain rfl:i=n:=by omega
  exact ⟨.tuple #[pz b13,.int .i64 0],_,res2 rfl rfl rfl,λ g w h=>dev_back (s:=newS i) (newS_wf hn hn2) (by simp [newS];exact hsv') rfl g w (h.perm (by show F*DevC b13 b11 svs' _ [] { blank i with ls:=mp (λ _=>zline) i (List.replicate i ⟨[],0⟩) }=_;rw [mp_blank];rfl)),_,rfl,rfl⟩
theorem within_neg {a n:Int}(hn:0<n)(h:a.tmod n<0):a.tmod n+n=a%n:=by
  have e:=Int.tmod_eq_emod (a:=a) (b:=n);have h1:=Int.emod_nonneg a (show n≠0 by omega)
  split at e<;>omega
theorem within_pos {a n:Int}(hn:0<n)(h:¬a.tmod n<0):a.tmod n=a%n:=by
  have e:=Int.tmod_eq_emod (a:=a) (b:=n);have h1:=Int.emod_lt_of_pos a hn
  split at e<;>omega
theorem tmod_lt' {a n:Int}(hn:0<n): -n<a.tmod n/\ a.tmod n<n:=by
  have e:=Int.tmod_eq_emod (a:=a) (b:=n);have h1:=Int.emod_nonneg a (show n≠0 by omega);have h2:=Int.emod_lt_of_pos a hn
  split at e
  . omega
  rename_i hx
  have:a%n≠0:=λ h0=>hx (.inr (Int.dvd_of_emod_eq_zero h0))
  omega
section
variable {F:SP} {d:Nat} {s:DevS}
theorem OffD_f:Fn Tryz.prog 262 #[pz d] (F*Dev d s) (λ r B=>r= .bool s.off/\ F*Dev d s=B):=
  fn_devR0 λ _ A bl svs av hR=>Off_f A d bl s.ls.length s av hR.d hR.wf.pos hR.wf.top
theorem LoadD_f {p m:Nat}{W:List Nat}(hoff:s.off=false)(hpm:p+m<=s.ls.length*64)(hW:W=((imgS s).drop p).take m):
    Fn Tryz.prog 247 #[pz d,vn p,vn m] (F*Dev d s) (λ r B=>∃X,B=F*Dev d s*X/\∃u,r= .tuple #[u,.int .i64 0]/\ X=Sl 1 u m (bys W)):=
  fn_devR λ _ A bl svs av hR=>Load_f A d bl svs av s p m W hR hoff hpm hW
end
def aw1:DevS:=(st8 0 257 (newS 2)).2
def aw2:DevS:=(fl1 3 aw1).2
def aw3:DevS:=(st8 8 5 aw2).2
def aw4:DevS:=(fe aw3).2
def aw5:DevS:=goesS [] aw4
def aw6:DevS:={ aw5 with off:=false }
def awB:List Nat:=[1,1,0,0,0,0,0,0,0,0,0,0,0,0,0,0]
structure PlS where
  s:DevS
  seen:List Nat
  held:List (List Nat)
  last:List Nat
  sure:List Bool
  marks:List Int
def wi (p:Int)(n:Nat):Nat:=(p%(n:Int)).toNat
def lastF (marks:List Int)(seen:List Nat):Nat->Nat->Nat:=λ i x=>if marks.getD (i/8) 0=1 then seen.getD i 0 else x
def sureF (marks:List Int):Nat->Bool->Bool:=λ i x=>if marks.getD (i/8) 0=1 then true else x
def stepP (k p:Int)(v:Nat)(P:PlS):Bool×PlS:=
  if k=2∨k=3 then
    (decide ((st8 ((8*wi p P.seen.length:Nat):Int) v P.s).1=0),⟨(st8 ((8*wi p P.seen.length:Nat):Int) v P.s).2,P.seen.set (wi p P.seen.length) v,P.held.set (wi p P.seen.length) (P.held.getD (wi p P.seen.length) []++[v]),P.last,
      P.sure.set (wi p P.seen.length) false,if P.marks.getD (wi p P.seen.length/8) 0=1 then P.marks.set (wi p P.seen.length/8) 2 else P.marks⟩)
  else if k=4 then (decide ((fl1 ((8*wi p P.seen.length:Nat):Int) P.s).1=0),{ P with s:=(fl1 ((8*wi p P.seen.length:Nat):Int) P.s).2,marks:=P.marks.set (wi p P.seen.length/8) 1 })
  else if k=5 then (decide ((fe P.s).1=0),{ P with s:=(fe P.s).2,last:=pm (lastF P.marks P.seen) P.seen.length P.last,sure:=pm (sureF P.marks) P.seen.length P.sure,marks:=pm (λ _ _=>0) P.marks.length P.marks })
  else (true,P)
def pcs (d:Nat)(sv hv lv uv mv:Value):List Value:=[pz d,sv,hv,lv,uv,mv]
structure WfP (r:Nat) (P:PlS):Prop where
  pos:0<P.marks.length
  top:P.marks.length<=4
  ls:P.s.ls.length=P.marks.length
  seen:P.seen.length=8*P.marks.length
  held:P.held.length=8*P.marks.length
  last:P.last.length=8*P.marks.length
  sure:P.sure.length=8*P.marks.length
  room:Room r P.s
  hroom:∀l∈P.held,l.length+r<=2199023255552
structure Live (s:DevS):Prop where
  off:s.off=false
  arms:s.arms=[]
theorem onLine_fields (f:LineS->LineS)(i:Nat)(s:DevS):(onLine f i s).ops=s.ops/\ (onLine f i s).arms=s.arms/\ (onLine f i s).cnt=s.cnt/\ (onLine f i s).off=s.off/\ (onLine f i s).ls.length=s.ls.length:=by
  unfold onLine;split<;>simp
theorem rdy_ok {n:Nat}{p m:Int}(hp:0<=p)(hm:0<=m)(h:p+m<=n*64):rdy n false p m=0:=by
  unfold rdy;rw [if_neg (by simp),if_neg oqz]
theorem onLine_room {f:LineS->LineS}{i r:Nat}{s:DevS}(h:Room (r+1) s)(hf:∀l,(f l).st.length<=l.st.length+1):Room r (onLine f i s):=by
  unfold onLine
  cases e:s.ls[i]? with
  |none=>exact λ l hl=>by have:=h l hl;omega
  |some l=>
    intro x hx
    rcases List.mem_or_eq_of_mem_set hx with h1|rfl
    . have:=h x h1;omega
    have:=h l (List.mem_of_getElem? e);have:=hf l;omega
structure StepC where
  k:Int
  q:Int
  nv:Value
  v:Nat
  dv:Value
  kv:Value
  av:Value
def StepC.cells (t:StepC):List Value:=[.int .i64 t.k,.int .i64 t.q,t.nv,.int .u64 (t.v:Nat),t.dv,t.kv,t.av]
def scs (l:List StepC):List Value:=l.flatMap StepC.cells
def playL (l:List StepC)(P:PlS):PlS:=l.foldl (λ P t=>(stepP t.k t.q t.v P).2) P
def begS (n:Nat):PlS:=⟨newS n,List.replicate (8*n) 0,List.replicate (8*n) [0],List.replicate (8*n) 0,List.replicate (8*n) true,List.replicate n 0⟩
def RdRows (A:SP)(a:Option Addr)(ls:List (List Nat)):Prop:=∃vs:List Value,vs.length=ls.length/\ Rd A a vs/\∀i (h:i<ls.length),∃b c,vs[i]? =some (.slice b ls[i].length c)/\ Rd A b (bys ls[i])
theorem RdRows.left {A X:SP}{a:Option Addr}{ls:List (List Nat)}(h:RdRows A a ls):RdRows (A*X) a ls:=by
  obtain ⟨vs,h1,h2,h3⟩:=h;exact ⟨vs,h1,h2.left,λ i hi=>by obtain ⟨b,c,e,hr⟩:=h3 i hi;exact ⟨b,c,e,hr.left⟩⟩
theorem RdRows.pre {A B:SP}{a:Option Addr}{ls:List (List Nat)}(h:RdRows A a ls)(k:∀g w,sat g w B->sat g w A):RdRows B a ls:=by
  obtain ⟨vs,h1,h2,h3⟩:=h;exact ⟨vs,h1,h2.pre k,λ i hi=>by obtain ⟨b,c,e,hr⟩:=h3 i hi;exact ⟨b,c,e,hr.pre k⟩⟩
theorem parts_get:∀{vs:List Value} {ls:List (List Nat)} {i:Nat} (h:vs.length=ls.length) (hi:i<ls.length),
    ∃R,Parts vs ls=R*Sl 1 (vs[i]'oqz) ls[i].length (bys ls[i])/\∀v l,Parts (vs.set i v) (ls.set i l)=R*Sl 1 v l.length (bys l)
  |[],[],_,_,hi=>by simp at hi
  |v::vs,l::ls,0,h,_=>⟨Parts vs ls,rfl,λ _ _=>rfl⟩
  |v::vs,l::ls,i+1,h,hi=>by
    obtain ⟨R,h1,h2⟩:=parts_get (vs:=vs) (ls:=ls) (i:=i) (by simpa using h) (by simpa using hi);refine ⟨R*Sl 1 v l.length (bys l), ?_,λ u m=> ?_⟩
    . simp only [Parts,List.getElem_cons_succ];rw [h1,star_swap]
    simp only [List.set_cons_succ,Parts];rw [h2,star_swap]
theorem Foc.parts {A A':SP}{hvs:List Value}{held:List (List Nat)}(h:Foc A (Parts hvs held) (Parts hvs held) A')(hl:hvs.length=held.length){g:Gh}{w:World}(hs:sat g w A):
    ∀i (hi:i<held.length),∃a c,hvs[i]? =some (.slice a held[i].length c)/\ held[i].length<=c/\ Rd (Parts hvs held) a (bys held[i]):=λ i hi=>by
  obtain ⟨R,rfl,_⟩:=h;obtain ⟨S,h1,_⟩:=parts_get hl hi;have hs2:=hs.right;obtain ⟨a,c,e,hle,_,hr⟩:=sl_have' h1 hs2;exact ⟨a,c,by rw [List.getElem?_eq_getElem oqz,e],hle,hr⟩
theorem slb_snoc {A:SP}{u:Value}{l:List Nat}{x:Nat}:A*Sl 1 u (l.length+1) (bys l++[.int .u8 (x:Int)])=A*Sl 1 u (l++[x]).length (bys (l++[x])):=by
  rw [bys_append,List.length_append];rfl
theorem CopyBytes_f (A:SP)(a:Option Addr)(c:Nat)(xs:List Nat)(hr:Rd A a (bys xs))(hl:xs.length<=140737488351232):
    Fn Tryz.prog 83 #[.slice a xs.length c] A (λ r B=>B=A*Sl 1 r xs.length (bys xs)):=by
  refine fn_enter func83 rfl ntmps83 (by simp) ?_;refine Zha ?_;refine tv (o_len underlying67 rfl) ?_;refine tl_x rfl (o_makeSlice (len:=0) (cap:=xs.length) underlying67 sz5 by5 z5 rfl rfl rfl oqz oqz oqz) ?_;rintro _ _ ⟨b7,rfl,rfl⟩;refine tl_pre (λ _ _ h=>sl_new (k:=1) (n:=0) (cap:=xs.length) (xs:=[]) h oqz (by simp) (by simp)) ?_;refine Zf ?_;refine tc_seq ?_;refine Zcm ?_;refine tc_block ?_;refine tc_loop (λ kk ρ BB=>∃ (i:Nat) (v:Value),(i<=xs.length)/\ kk=xs.length-i/\ ρ 0= .slice a xs.length c/\ ρ 3=v/\ ρ 4=(vn i)/\ BB=A*Sl 1 v (xs.take i).length (bys (xs.take i))) (m:=xs.length-(0)) ?_ ?_
  . exact ⟨0,_,by omega,rfl,rfl,rfl,rfl,rfl⟩
  intro k ρ B hI;obtain ⟨i,v,hp0,rfl,hs0,hs3,hs4,rfl⟩:=hI;refine tc_env (d:=0) hs0 ?_;refine tc_env (d:=3) hs3 ?_;refine tc_env (d:=4) hs4 ?_;refine Zca ?_;refine Zd5 ?_;refine Zx ?_;refine tc_cond rfl (λ h=> ?_) (sbq ?_)
  . simp only [decide_eq_true_eq] at h
    have hi':i<xs.length:=(by omega);obtain ⟨b,o,rfl,hc⟩:=hr.some (by rw [bys_length];omega);have g1:=hc i _ (bys_at hi');refine Zbe ?_;refine Zin ?_;refine tv (o_move rfl) ?_;refine tv (o_indexAddrN1 (j:=i) underlying67 sz5 rfl rfl oqz) ?_;refine tv (o_loadC p5 rfl g1.left) ?_;refine tl_x rfl (o_buildSlice1 (v:= .int .u8 (xs[i]:Nat)) underlying67 sz5 z5 rfl rfl) ?_;rintro _ _ ⟨b19,rfl,rfl⟩;refine tl_x rfl (o_append1 underlying67 underlying67 sz5 by5 z5 rfl (by decide) (by decide) rfl rfl rfl rfl rfl (by rw [List.length_take];omega)) ?_;rintro u20 _ rfl;refine Zdo ?_;refine tv (o_move rfl) ?_;refine tv adqz ?_;refine Zf ?_;exact ⟨_,by omega,i+1,u20,by omega,rfl,rfl,rfl,rfl,by rw [List.take_succ_eq_append_getElem hi',←slb_snoc]⟩
  intro h;refine Ze7 ?_;refine Zbp ?_;obtain rfl:i=xs.length:=by omega
  rw [List.take_length]
  exact ⟨v,res1 rfl rfl,rfl⟩
theorem Zcw {p r:Prop}(k:r)(h:Kq r->p:=by intro k;refine tc_exit ?_;refine q_then_e (q_then_e (q_block_x (q_block_n (q_then_n ?_))));exact k.o):p:=h ⟨k⟩
theorem Join_f (A:SP)(a:Option Addr)(c:Nat)(ls:List (List Nat))(hr:RdRows A a ls)(hl:ls.flatten.length<=17592186044416)(hl2:ls.length<=17592186044416):
    Fn Tryz.prog 75 #[.slice a ls.length c] A (λ r B=>B=A*Sl 1 r ls.flatten.length (bys ls.flatten)):=by
  refine fn_enter func75 rfl ntmps75 (by simp) ?_;obtain ⟨vs,hvl,hra,hrows⟩:=hr;refine Zcm ?_;refine Zcm ?_;refine Ze8 ?_;refine tl_pre (λ _ _ h=>sl_nil (k:=1) h) ?_;refine Zhp ?_;refine tc_loop (λ kk ρ BB=>∃ (i:Nat) (v:Value),(i<=ls.length)/\ kk=ls.length-i/\ ρ 0= .slice a ls.length c/\ ρ 3=v/\ ρ 4=(vn i)/\ BB=A*Sl 1 v (ls.take i).flatten.length (bys (ls.take i).flatten)) (m:=ls.length-(0)) ?_ ?_
  . exact ⟨0,_,by omega,rfl,rfl,rfl,rfl,rfl⟩
  intro k ρ B hI;obtain ⟨i,v,hp0,rfl,hs0,hs3,hs4,rfl⟩:=hI;refine tc_env (d:=0) hs0 ?_;refine tc_env (d:=3) hs3 ?_;refine tc_env (d:=4) hs4 ?_;refine Zca ?_;refine tv (o_move rfl) ?_;refine tv (o_len underlying35 rfl) ?_;refine Zx ?_;refine tc_cond rfl (λ h=> ?_) (sbq ?_)
  . simp only [decide_eq_true_eq] at h
    have hi':i<ls.length:=(by omega);obtain ⟨b,o,rfl,hc⟩:=hra.some oqz;obtain ⟨bi,ci,e1,hri⟩:=hrows i hi';have g1:=hc i _ e1
    have hfl:(ls.take i).flatten.length+ls[i].length<=ls.flatten.length:=by
      have e:=List.take_append_drop i ls;have e2:ls.flatten.length=(ls.take i).flatten.length+(ls.drop i).flatten.length:=(by rw [←List.length_append,←List.flatten_append,e]);rw [e2,List.drop_eq_getElem_cons hi',List.flatten_cons,List.length_append];omega
    refine Zbe ?_;refine Zcm ?_;refine tc_block ?_;refine tc_loop (λ kk ρ BB=>∃ (j:Nat) (u:Value),(j<=ls[i].length)/\ kk=ls[i].length-j/\ ρ 0= .slice (some ⟨b,o,none⟩) ls.length c/\ ρ 3=u/\ ρ 4=(vn i)/\ ρ 5=(vn j)/\ BB=A*Sl 1 u ((ls.take i).flatten++ls[i].take j).length (bys ((ls.take i).flatten++ls[i].take j))) (m:=ls[i].length-(0)) ?_ ?_
    . exact ⟨0,v,by omega,rfl,rfl,rfl,rfl,rfl,by rw [List.take_zero,List.append_nil]⟩
    intro k ρ B hI;obtain ⟨j,u,hp0,rfl,hs0,hs3,hs4,hs5,rfl⟩:=hI;refine tc_env (d:=0) hs0 ?_;refine tc_env (d:=3) hs3 ?_;refine tc_env (d:=4) hs4 ?_;refine tc_env (d:=5) hs5 ?_;refine Zca ?_;refine Zbt ?_;refine tv (o_indexAddrN1 (j:=i) underlying35 sz67 rfl rfl oqz) ?_;refine tv (o_loadC p67 rfl g1.left) ?_;refine tv (o_len underlying67 rfl) ?_;refine Zx ?_;refine tc_cond rfl (λ h=> ?_) (λ h=> ?_)
    . simp only [decide_eq_true_eq] at h
      have hj':j<ls[i].length:=(by omega);obtain ⟨bb,oo,rfl,hcc⟩:=hri.some (by rw [bys_length];omega);have g2:=hcc j _ (bys_at hj');refine Zbe ?_;refine Zin ?_;refine tv (o_move rfl) ?_;refine tv (o_indexAddrN1 (j:=i) underlying35 sz67 rfl rfl oqz) ?_;refine tv (o_loadC p67 rfl g1.left) ?_;refine tv (o_move rfl) ?_;refine tv (o_indexAddrN1 (j:=j) underlying67 sz5 rfl rfl oqz) ?_;refine tv (o_loadC p5 rfl g2.left) ?_;refine tl_x rfl (o_buildSlice1 (v:= .int .u8 (ls[i][j]:Nat)) underlying67 sz5 z5 rfl rfl) ?_;rintro _ _ ⟨b29,rfl,rfl⟩;refine tl_x rfl (o_append1 underlying67 underlying67 sz5 by5 z5 rfl (by decide) (by decide) rfl rfl rfl rfl rfl (by rw [List.length_append,List.length_take];omega)) ?_;rintro u30 _ rfl;refine Zdo ?_;refine tv (o_move rfl) ?_;refine tv adqz ?_;refine Zf ?_;exact ⟨_,by omega,j+1,u30,by omega,rfl,rfl,rfl,rfl,rfl,by rw [List.take_succ_eq_append_getElem hj',←List.append_assoc,←slb_snoc]⟩
    simp only [decide_eq_false_iff_not] at h
    obtain rfl:j=ls[i].length:=by omega
    rw [List.take_length]
    refine Zcw ?_;refine Zd6 ?_;refine tv adqz ?_;refine Zf ?_;exact ⟨_,by omega,i+1,u,by omega,rfl,rfl,rfl,rfl,by rw [List.take_succ_eq_append_getElem hi',List.flatten_append,List.flatten_singleton]⟩
  intro h;refine Ze7 ?_;refine Zbp ?_;obtain rfl:i=ls.length:=by omega
  rw [List.take_length]
  exact ⟨v,res1 rfl rfl,rfl⟩
theorem JoinN_f (A:SP)(a:Option Addr)(c n:Nat)(ls:List (List Nat))(hr:RdRows A a ls)(hl:ls.flatten.length<=17592186044416)(hl2:ls.length<=17592186044416)(hn:ls.length=n):
    Fn Tryz.prog 75 #[.slice a n c] A (λ r B=>B=A*Sl 1 r ls.flatten.length (bys ls.flatten)):=by subst hn;exact Join_f A a c ls hr hl hl2
def wordF (xs:List Nat)(i k:Nat):Nat:=nm ((xs.drop (i*64+k*8)).take 8)
def lineF (xs:List Nat)(i:Nat):LineS:=⟨[(List.replicate 8 0).mapIdx λ k _=>wordF xs i k],-1⟩
def fromS (n:Nat)(xs:List Nat):DevS:={ newS n with ls:=(newS n).ls.mapIdx λ i _=>lineF xs i }
theorem take8_lt {xs:List Nat}(hb:∀x∈xs,x<256)(p:Nat):nm ((xs.drop p).take 8)<18446744073709551616:=by
  have h1:=nm_lt ((xs.drop p).take 8) λ x hx=>hb x (List.mem_of_mem_drop (List.mem_of_mem_take hx))
  have h2:((xs.drop p).take 8).length<=8:=(by rw [List.length_take];omega);have h3:=Nat.pow_le_pow_right (show 0<256 by decide) h2;have:(256:Nat)^8=18446744073709551616:=(by decide)
  omega
theorem lineF_wf {xs:List Nat}(hb:∀x∈xs,x<256)(i:Nat):WfL (lineF xs i):=by
  refine ⟨by simp [lineF], ?_,by simp [lineF],by simp [lineF],by simp [lineF], ?_⟩
  . intro s hs
    simp only [lineF,List.mem_singleton] at hs;subst hs;simp
  intro s hs x hx
  simp only [lineF,List.mem_singleton] at hs;subst hs
  obtain ⟨j,hj,rfl⟩:=List.mem_iff_getElem.1 hx;rw [List.getElem_mapIdx];exact take8_lt hb _
theorem fromS_wf {n:Nat}{xs:List Nat}(h:0<n)(h2:n<=65536)(hb:∀x∈xs,x<256):WfD (fromS n xs):=
  ⟨by simp [fromS,newS];exact h,by simp [fromS,newS];exact h2,λ l hl=>by
    obtain ⟨j,hj,rfl⟩:=List.mem_iff_getElem.1 hl
    simp only [fromS,List.getElem_mapIdx];exact lineF_wf hb _,by simp [fromS,newS],by simp [fromS,newS],by simp [fromS,newS]⟩
def spl {α:Type}(l:List α)(p:Nat)(b:List α):List α:=l.take p++b++l.drop (p+b.length)
theorem spl_length {α:Type}{l b:List α}{p:Nat}(h:p+b.length<=l.length):(spl l p b).length=l.length:=by
  simp only [spl,List.length_append,List.length_take,List.length_drop];omega
theorem splice_spl {l b:List Value}{p:Nat}(h:p+b.length<=l.length):splice l p b=spl l p b:=splice_eq h
theorem spl_at {α:Type}{l b:List α}{p i:Nat}(h:p+b.length<=l.length):(spl l p b)[i]? =if p<=i/\ i<p+b.length then b[i-p]? else l[i]? :=by
  unfold spl
  by_cases h1:i<p
  . rw [if_neg oqz,List.append_assoc,List.getElem?_append_left (by simp;omega),List.getElem?_take,if_pos h1]
  by_cases h2:i<p+b.length
  . rw [if_pos oqz,List.append_assoc,List.getElem?_append_right (by simp;omega),List.getElem?_append_left (by simp;omega)]
    congr 1;simp;omega
  rw [if_neg oqz,List.getElem?_append_right (by simp;omega),List.getElem?_drop]
  congr 1;simp;omega
theorem spl_bys (l b:List Nat)(p:Nat):spl (bys l) p (bys b)=bys (spl l p b):=by
  simp [spl,bys,List.map_take,List.map_drop]
theorem spl_spl {α:Type}{l b c:List α}{p:Nat}(h:p+b.length+c.length<=l.length):spl (spl l p b) (p+b.length) c=spl l p (b++c):=by
  have h1:p+b.length<=l.length:=(by omega)
  apply List.ext_getElem?
  intro i;rw [spl_at (by rw [spl_length h1];omega),spl_at h1,spl_at (by simp;omega)]
  by_cases h2:p+b.length<=i/\ i<p+b.length+c.length
  . rw [if_pos h2,if_pos (by simp;omega),List.getElem?_append_right oqz];congr 1;omega
  rw [if_neg h2]
  by_cases h3:p<=i/\ i<p+b.length
  . rw [if_pos h3,if_pos (by simp;omega),List.getElem?_append_left oqz]
  rw [if_neg h3,if_neg (by simp;omega)]
def stW (p:Nat)(b:List Nat)(s:DevS):List Nat:=spl (le 8 ((seenL (s.ls.getD (p/64) zline)).getD (p%64/8) 0)) (p%8) (b.take (8-p%8))
def storeF:Nat->Nat->List Nat->DevS->Int×DevS
  |0,_,_,s=>(0,s)
  |f+1,p,b,s=>if b=[] then (0,s) else
    if doneE (layS (p-p%8) (nm (stW p b s)) s)≠0 then (doneE (layS (p-p%8) (nm (stW p b s)) s),doneS (layS (p-p%8) (nm (stW p b s)) s))
    else storeF f (p+min (8-p%8) b.length) (b.drop (8-p%8)) (doneS (layS (p-p%8) (nm (stW p b s)) s))
theorem storeF_nil (f p:Nat)(s:DevS):storeF f p [] s=(0,s):=by cases f<;>rfl
theorem storeF_fuel:∀ (f g:Nat) {p:Nat} {b:List Nat} {s:DevS},b.length<=f->b.length<=g->storeF f p b s=storeF g p b s
  |f,g,p,[],s,_,_=>by rw [storeF_nil,storeF_nil]
  |0,_,_,_::_,_,h,_=>by simp at h
  |_,0,_,_::_,_,_,h=>by simp at h
  |f+1,g+1,p,x::b,s,hf,hg=>by
    have hd:((x::b).drop (8-p%8)).length<=b.length:=(by rw [List.length_drop,List.length_cons];omega)
    simp only [List.length_cons] at hf hg
    unfold storeF
    rw [storeF_fuel f g oqz oqz]
def sto (p:Int)(b:List Nat)(s:DevS):Int×DevS:=if rdy s.ls.length s.off p b.length≠0 then (rdy s.ls.length s.off p b.length,s) else storeF b.length p.toNat b s
theorem cbqz {p:Prop}(h:p:=by repeat (first|with_reducible exact ct_here|apply ct_left)):p:=h
theorem rbqz {p:Prop}(h:p:=by repeat (first|assumption|with_reducible exact rs_sl|with_reducible exact rs_pt0|exact rs_none|apply Rs.left)):p:=h
theorem fn_sl {P:Program}{f:FuncId}{args:Array Value}{A A0:SP}{k n:Nat}{xs:List Value}(h:Fn P f args A (λ r B=>B=A0*Sl k r n xs)):Fn P f args A (λ r B=>∃a c,r= .slice a n c/\ n<=c/\ B=A0*Sl k (.slice a n c) n xs):=λ g w hs=>by
  refine (h g w hs).mono ?_;rintro e w' ⟨v,B,rfl,rfl,hB⟩;obtain ⟨a,c,rfl,h1,_⟩:=sl_have hB;exact ⟨_,_,rfl,⟨a,c,rfl,h1,rfl⟩,hB⟩
theorem ql_env {P:Program}{n:Nat}{ops:Array Oper}{A:SP}{K:Env->Prop}{l:List Oper}{ρ:Env}{d:Nat}{v:Value}(h:ρ d=v)(k:QL P n ops A K l (upd ρ d v)):QL P n ops A K l ρ:=by
  rw [←env_set h] at k;exact k
theorem Off_c {A R:SP}{C:SP->SP}{d:Nat}{s:DevS}(hc:Ct A (Dev d s) R C:=by exact cbqz)  :
    Fn Tryz.prog 262 #[pz d] A (λ r B=>r= .bool s.off/\ A=B):=by
  obtain ⟨rfl,hC⟩:=hc;exact OffD_f
theorem Store8_c {A R:SP}{C:SP->SP}{d:Nat}{s:DevS}(hc:Ct A (Dev d s) R C:=by exact cbqz){v:Nat}{p:Int}(hp: -9223372036854775808<=p/\ p<=9223372036854775807:=by omega)(hv:v<18446744073709551616:=by omega)(hroom:Room 1 s:=by assumption):
    Fn Tryz.prog 308 #[pz d,.int .i64 p,.int .u64 (v:Nat)] A (λ r B=>∃e s2,st8 p v s=(e,s2)/\ r= .int .i64 e/\ B=C (Dev d s2)):=by
  obtain ⟨rfl,hC⟩:=hc;exact (Store8_f R d v p s hp hv hroom).mono λ _ _ h=>⟨(st8 p v s).1,(st8 p v s).2,rfl,h.1,by rw [hC];exact h.2⟩
theorem Flush_c {A R:SP}{C:SP->SP}{d:Nat}{s:DevS}(hc:Ct A (Dev d s) R C:=by exact cbqz){p:Int}(hp: -9223372036854775808<=p/\ p<=9223372036854775807:=by omega):
    Fn Tryz.prog 264 #[pz d,.int .i64 p] A (λ r B=>∃e s2,fl1 p s=(e,s2)/\ r= .int .i64 e/\ B=C (Dev d s2)):=by
  obtain ⟨rfl,hC⟩:=hc;exact (Flush_f R d p s hp).mono λ _ _ h=>⟨(fl1 p s).1,(fl1 p s).2,rfl,h.1,by rw [hC];exact h.2⟩
theorem Fence_c {A R:SP}{C:SP->SP}{d:Nat}{s:DevS}(hc:Ct A (Dev d s) R C:=by exact cbqz)  :
    Fn Tryz.prog 209 #[pz d] A (λ r B=>∃e s2,fe s=(e,s2)/\ r= .int .i64 e/\ B=C (Dev d s2)):=by
  obtain ⟨rfl,hC⟩:=hc;exact (Fence_f R d s).mono λ _ _ h=>⟨(fe s).1,(fe s).2,rfl,h.1,by rw [hC];exact h.2⟩
def crS (keep:List Int)(s:DevS):Int×DevS:=if s.off then (5,s) else if lowB keep then (2,s) else (0,goesS keep s)
theorem ready_c {A R:SP}{C:SP->SP}{d:Nat}{s:DevS}(hc:Ct A (Dev d s) R C:=by exact cbqz){p m:Int}(hp: -9223372036854775808<=p/\ p<=9223372036854775807:=by omega)(hm: -9223372036854775808<=m/\ m<=9223372036854775807:=by omega):
    Fn Tryz.prog 193 #[pz d,.int .i64 p,.int .i64 m] A (λ r B=>r= .int .i64 (rdy s.ls.length s.off p m)/\ A=B):=by
  obtain ⟨rfl,hC⟩:=hc;exact fn_devR0 λ _ A bl svs av hR=>ready_f A d bl s.ls.length s av hR.d hR.wf.pos hR.wf.top p m hp hm
theorem lay_c {A R:SP}{C:SP->SP}{d:Nat}{s:DevS}(hc:Ct A (Dev d s) R C:=by exact cbqz){p v:Nat}(hat:p/64<s.ls.length:=by omega)(hv:v<18446744073709551616:=by omega)(hroom:Room 1 s:=by assumption):
    Fn Tryz.prog 303 #[pz d,vn p,.int .u64 (v:Nat)] A (λ r B=>r= .int .i64 (doneE (layS p v s))/\ B=C (Dev d (doneS (layS p v s)))):=by
  obtain ⟨rfl,hC⟩:=hc;exact (lay_f R d p v s hat hv hroom).mono λ _ _ h=>⟨h.1,by rw [hC];exact h.2⟩
theorem Load_c {A R:SP}{C:SP->SP}{d:Nat}{s:DevS}(hc:Ct A (Dev d s) R C:=by exact cbqz){p m:Nat}(hoff:s.off=false:=by assumption)(hpm:p+m<=s.ls.length*64:=by omega):
    Fn Tryz.prog 247 #[pz d,vn p,vn m] A (λ r B=>∃a c,r= .tuple #[.slice a m c,.int .i64 0]/\ m<=c/\ B=A*Sl 1 (.slice a m c) m (bys (((imgS s).drop p).take m))):=by
  obtain ⟨rfl,hC⟩:=hc;refine λ g w hs=>(LoadD_f (F:=R) (d:=d) hoff hpm rfl g w hs).mono ?_
  rintro e w' ⟨v,B,rfl,⟨X,rfl,u,rfl,rfl⟩,hB⟩;obtain ⟨a,c,rfl,h1,_⟩:=sl_have hB;exact ⟨_,_,rfl,⟨a,c,rfl,h1,rfl⟩,hB⟩
theorem LoadNo_c {A R:SP}{C:SP->SP}{d:Nat}{s:DevS}(hc:Ct A (Dev d s) R C:=by exact cbqz){p m:Int}(hp: -9223372036854775808<=p/\ p<=9223372036854775807:=by omega)(hm: -9223372036854775808<=m/\ m<=9223372036854775807:=by omega)(hno:rdy s.ls.length s.off p m≠0:=by assumption):
    Fn Tryz.prog 247 #[pz d,.int .i64 p,.int .i64 m] A (λ r B=>r= .tuple #[.slice none 0 0,.int .i64 (rdy s.ls.length s.off p m)]/\ A=B):=by
  obtain ⟨rfl,hC⟩:=hc;exact fn_devR0 λ _ A bl svs av hR=>LoadNo_f A d bl svs av s hR p m hp hm hno
theorem New_c {A:SP}{n:Nat}{v:Int}(hv:v=((n*64:Nat):Int):=by omega)(hn:0<n:=by omega)(hn2:n<=65536:=by omega):Fn Tryz.prog 169 #[.int .i64 v] A (λ r B=>∃d,r= .tuple #[pz d,.int .i64 0]/\ B=A*Dev d (newS n)):=by
  subst hv;exact New_f A n hn hn2
theorem CopyBytes_c {A:SP}{a:Option Addr}{c m:Nat}{xs:List Nat}(hr:Rs A a (bys xs):=by exact rbqz)(hm:xs.length=m:=by first|assumption|rfl)(hl:m<=140737488351232:=by omega):
    Fn Tryz.prog 83 #[.slice a m c] A (λ r B=>∃a' c',r= .slice a' m c'/\ m<=c'/\ B=A*Sl 1 (.slice a' m c') m (bys xs)):=by
  subst hm;exact fn_rs hr λ hr=>fn_sl (CopyBytes_f A a c xs hr hl)
theorem EqBytes_c {A:SP}{a1 a2:Option Addr}{c1 c2 n m:Nat}{xs ys:List Nat}(h1:Rs A a1 (bys xs):=by exact rbqz)(h2:Rs A a2 (bys ys):=by exact rbqz)(hx:xs.length=n:=by first|assumption|rfl)(hy:ys.length=m:=by first|assumption|rfl)(hn:n<=4611686018427387904:=by omega)(hm:m<=4611686018427387904:=by omega):
    Fn Tryz.prog 54 #[.slice a1 n c1,.slice a2 m c2] A (λ r B=>r= .bool (decide (xs=ys))/\ A=B):=by
  subst hx hy;exact fn_rs h1 λ h1=>fn_rs h2 λ h2=>EqBytes_f A a1 a2 c1 c2 xs ys h1 h2 hn hm
theorem Take64_c {A:SP}{a:Option Addr}{c m:Nat}{xs:List Nat}{p:Nat}(hr:Rs A a (bys xs):=by exact rbqz)(hb:∀x∈xs,x<256:=by assumption)(hm:xs.length=m:=by first|assumption|rfl)(hp:p+8<=m:=by omega)(hl:m<=1099511627776:=by omega):
    Fn Tryz.prog 67 #[.slice a m c,vn p] A (λ r B=>r= .tuple #[.int .u64 ((nm ((xs.drop p).take 8):Nat):Int),.int .i64 0]/\ A=B):=by
  subst hm;exact fn_rs hr λ hr=>Take64_f A a c xs p hb hr hp hl
theorem Put64_c {A:SP}{a:Option Addr}{c m:Nat}{xs:List Nat}{v:Nat}(hr:Rs A a (bys xs):=by exact rbqz)(hm:xs.length=m:=by first|assumption|rfl)(hv:v<18446744073709551616:=by omega)(hl:m<=1099511627776:=by omega):
    Fn Tryz.prog 73 #[.slice a m c,.int .u64 (v:Nat)] A (λ r B=>∃a' c',r= .slice a' (m+8) c'/\ m+8<=c'/\ B=A*Sl 1 (.slice a' (m+8) c') (m+8) (bys (xs++le 8 v))):=by
  subst hm;exact fn_rs hr λ hr=>fn_sl ((Put64_f A a c xs v hr hv hl).mono λ _ _ ⟨u,e,h⟩=>by rw [e];exact h)
theorem hsqz {p:Prop}(h:p:=by repeat (first|with_reducible exact has_here|with_reducible exact has_pt|apply has_left)):p:=h
theorem drqz {p:Prop}(h:p:=by repeat (first|with_reducible exact dr_refl|apply dr_keep|apply dr_drop)):p:=h
def fromP (n:Nat)(xs:List Nat)(i:Nat):DevS:={ newS n with ls:=pm (λ j _=>lineF xs j) i (newS n).ls }
theorem fromP_zero (n:Nat)(xs:List Nat):fromP n xs 0=newS n:=by unfold fromP;rw [pm_zero]
theorem fromP_all (n:Nat)(xs:List Nat):fromP n xs n=fromS n xs:=by
  have h:(newS n).ls.length=n:=(by simp [newS]);have:=pm_all (λ j _=>lineF xs j) (newS n).ls;rw [h] at this
  unfold fromP fromS;rw [this]
theorem fromP_len (n:Nat)(xs:List Nat)(i:Nat):(fromP n xs i).ls.length=n:=by simp [fromP,pm_length,newS]
theorem fromP_at {n:Nat}(xs:List Nat){i:Nat}(h:i<n):(fromP n xs i).ls[i]'(by rw [fromP_len];exact h)=zline:=by
  simp only [fromP]
  rw [pm_at _ (by simpa [newS] using h)];simp [newS]
theorem fromP_set {n:Nat}(xs:List Nat){i:Nat}(h:i<n):{ fromP n xs i with ls:=(fromP n xs i).ls.set i (lineF xs i) }=fromP n xs (i+1):=by
  have hl:i<(newS n).ls.length:=(by simpa [newS] using h);have:=pm_set (λ j _=>lineF xs j) hl
  unfold fromP;simp only [this]
theorem fromP_wf {n:Nat}{xs:List Nat}{i:Nat}(h:0<n)(h2:n<=65536)(hb:∀x∈xs,x<256):WfD (fromP n xs i):=
  ⟨by rw [fromP_len];exact h,by rw [fromP_len];exact h2,λ l hl=>by
    obtain ⟨j,hj,rfl⟩:=List.mem_iff_getElem.1 hl
    simp only [fromP,pm,List.getElem_mapIdx]
    split
    . exact lineF_wf hb _
    simp only [newS,List.getElem_replicate];exact zline_wf,by simp [fromP,newS],by simp [fromP,newS],by simp [fromP,newS]⟩
def lineW (xs:List Nat)(i k:Nat):List Nat:=pm (λ k _=>wordF xs i k) k (List.replicate 8 0)
theorem lineW_zero (xs:List Nat)(i:Nat):lineW xs i 0=List.replicate 8 0:=pm_zero _ _
theorem lineW_set (xs:List Nat)(i:Nat){k:Nat}(h:k<8):(lineW xs i k).set k (wordF xs i k)=lineW xs i (k+1):=by
  have:=pm_set (λ k _=>wordF xs i k) (l:=List.replicate 8 0) (k:=k) (by simpa using h);exact this
theorem lineW_all (xs:List Nat)(i:Nat):(⟨[lineW xs i 8],-1⟩:LineS)=lineF xs i:=by
  have:=pm_all (λ k _=>wordF xs i k) (List.replicate 8 0);rw [List.length_replicate] at this
  unfold lineF lineW;rw [this]
theorem Zcc {p r:Prop}(k:r)(h:Kq r->p:=by intro k;refine sr ?_;refine tla ?_;exact k.o):p:=h ⟨k⟩
theorem Za {p r:Prop}(k:r)(h:Kq r->p:=by intro k;refine tla ?_;refine nq ?_;exact k.o):p:=h ⟨k⟩
theorem Zb {p r:Prop}(k:r)(h:Kq r->p:=by intro k;refine sr ?_;refine tlm ?_;exact k.o):p:=h ⟨k⟩
theorem Zz {p r:Prop}(k:r)(h:Kq r->p:=by intro k;refine Za ?_;refine Zb ?_;exact k.o):p:=h ⟨k⟩
theorem Zn {p r:Prop}(k:r)(h:Kq r->p:=by intro k;refine tv (o_extract rfl rfl) ?_;refine tv (o_extract rfl rfl) ?_;exact k.o):p:=h ⟨k⟩
theorem Zbn {p r:Prop}(k:r)(h:Kq r->p:=by intro k;refine tlm ?_;refine Zn ?_;exact k.o):p:=h ⟨k⟩
theorem Zbq {p r:Prop}(k:r)(h:Kq r->p:=by intro k;refine Zbn ?_;refine tla ?_;exact k.o):p:=h ⟨k⟩
theorem Zm {p r:Prop}(k:r)(h:Kq r->p:=by intro k;refine tc_seq ?_;refine Zb ?_;exact k.o):p:=h ⟨k⟩
theorem Zy {p r:Prop}(k:r)(h:Kq r->p:=by intro k;refine Za ?_;refine Zm ?_;exact k.o):p:=h ⟨k⟩
theorem Zdu {p r:Prop}(k:r)(h:Kq r->p:=by intro k;refine Zbq ?_;refine Zy ?_;exact k.o):p:=h ⟨k⟩
theorem Zbd {p r:Prop}(k:r)(h:Kq r->p:=by intro k;refine tv (o_nei rfl rfl) ?_;refine Zq ?_;exact k.o):p:=h ⟨k⟩
theorem Zf9 {p r:Prop}(k:r)(h:Kq r->p:=by intro k;refine Zdu ?_;refine Zbd ?_;exact k.o):p:=h ⟨k⟩
theorem Zcr {p r:Prop}(k:r)(h:Kq r->p:=by intro k;refine Ze ?_;refine Zm ?_;exact k.o):p:=h ⟨k⟩
theorem Zbc {p r:Prop}(k:r)(h:Kq r->p:=by intro k;refine tlm ?_;refine nq ?_;exact k.o):p:=h ⟨k⟩
theorem Zb6 {p r:Prop}(k:r)(h:Kq r->p:=by intro k;refine Zbc ?_;refine tc_block ?_;exact k.o):p:=h ⟨k⟩
theorem Zen {p r:Prop}(k:r)(h:Kq r->p:=by intro k;refine Zbe ?_;refine Zb ?_;exact k.o):p:=h ⟨k⟩
theorem Zs {p r:Prop}(k:r)(h:Kq r->p:=by intro k;refine Zb ?_;refine tv (o_nilCheck rfl) ?_;exact k.o):p:=h ⟨k⟩
theorem Zfu {p r:Prop}(k:r)(h:Kq r->p:=by intro k;refine Za ?_;refine Zs ?_;exact k.o):p:=h ⟨k⟩
theorem Zhq {p r:Prop}(k:r)(h:Kq r->p:=by intro k;refine nq ?_;refine tc_block ?_;exact k.o):p:=h ⟨k⟩
theorem Zea {p r:Prop}(k:r)(h:Kq r->p:=by intro k;refine tm 0 rfl kqz rfl (o_move wqz) ?_;refine tm 1 rfl kqz rfl (o_move wqz) ?_;exact k.o):p:=h ⟨k⟩
theorem Zcy {p r:Prop}(k:r)(h:Kq r->p:=by intro k;refine tm 2 rfl kqz rfl (o_move wqz) ?_;refine tm 3 rfl kqz rfl (o_move wqz) ?_;exact k.o):p:=h ⟨k⟩
theorem Zcp {p r:Prop}(k:r)(h:Kq r->p:=by intro k;rintro _ _ ⟨rfl,rfl⟩;refine ⟨by repeat (first|with_reducible exact dr_refl|apply dr_keep|apply dr_drop), ?_⟩;exact k.o):p:=h ⟨k⟩
theorem Zg9 {p r:Prop}(k:r)(h:Kq r->p:=by intro k;refine tm 9 rfl kqz rfl (o_move wqz) ?_;refine tm 10 rfl kqz rfl (o_extract rfl rfl) ?_;refine tm 11 rfl kqz rfl (o_extract rfl rfl) ?_;exact k.o):p:=h ⟨k⟩
theorem Zbz {p r:Prop}(k:r)(h:Kq r->p:=by intro k;refine tv adqz ?_;refine Zbc ?_;exact k.o):p:=h ⟨k⟩
theorem Zcs {p r:Prop}(k:r)(h:Kq r->p:=by intro k;refine Zk ?_;refine Zb ?_;exact k.o):p:=h ⟨k⟩
theorem Zl {p r:Prop}(k:r)(h:Kq r->p:=by intro k;refine Za ?_;refine tc_ret ?_;exact k.o):p:=h ⟨k⟩
theorem Z6 {p r:Prop}(k:r)(h:Kq r->p:=by intro k;refine tla ?_;refine Zl ?_;exact k.o):p:=h ⟨k⟩
theorem Zhb {p r:Prop}(k:r)(h:Kq r->p:=by intro k;refine Zcs ?_;refine Z6 ?_;exact k.o):p:=h ⟨k⟩
theorem From_c {F:SP}{a:Option Addr}{c m:Nat}{xs:List Nat}(n:Nat)(hr:Rs F a (bys xs):=by exact rbqz)(hx:xs.length=m:=by first|assumption|rfl)(hm:m=n*64:=by omega)(hb:∀x∈xs,x<256:=by assumption)(hn:0<n:=by omega)(hn2:n<=65536:=by omega):
    Fn Tryz.prog 82 #[.slice a m c] (F) (λ r B=>∃d,r= .tuple #[pz d,.int .i64 0]/\ B=F*Dev d (fromS n xs)):=by
  refine fn_enterW func82 rfl ntmps82 (by simp) ?_;refine Zcc ?_;refine Zz ?_;refine tv (o_len underlying67 rfl) ?_;refine tl_c rfl (o_call bd169 rfl (New_c (n:=n))) ?_;rintro _ _ ⟨d12,rfl,rfl⟩;refine Zf9 ?_;intro h;refine Zcr ?_;refine Zbg ?_;rw [←fromP_zero n xs]
  refine tl_dev λ hw bl svs av kvs hsv hkv=> ?_
  refine Zev ?_;rw [fromP_len]
  refine tl_pre (dev_back hw hsv hkv) ?_;refine Zb6 ?_;refine tc_loop (λ kk ρ BB=>∃ (i:Nat),(i<=n)/\ kk=n-i/\ ρ 23=(vn i)/\ ρ 0= .slice a m c/\ ρ 4=(pz d12)/\ ρ 22=(vn n)/\ BB=F*Dev d12 (fromP n xs i)) (m:=n-(0)) ?_ ?_
  . exact ⟨0,by omega,rfl,rfl,rfl,rfl,rfl,rfl⟩
  intro k ρ B hI;obtain ⟨i,hp0,hkk1,hE23,hE0,hE4,hE22,rfl⟩:=hI;refine te 23 hE23 ?_;refine te 0 hE0 ?_;refine te 4 hE4 ?_;refine te 22 hE22 ?_;refine Zb9 ?_;refine tc_cond rfl (sbq ?_) (sbq ?_)
  . intro h;refine Zen ?_;refine Zfu ?_;refine tv (o_fieldAddr (o:=0) underlying236 rfl rfl sz234 rfl) ?_;refine tl_dev λ hw bl svs av kvs hsv hkv=> ?_
    have hi:i<(fromP n xs i).ls.length:=(by rw [fromP_len];omega);obtain ⟨R,hf1,hf2⟩:=devC_focus (d:=d12) (bl:=bl) (kvs:=kvs) (av:=av) (s:=fromP n xs i) hsv hi;refine tl_eq (hf1 F) ?_;rw [fromP_at xs (show i<n by omega)]
    refine tl_have (λ _ _ h=>sl_have' rfl h) λ ⟨a',c',hvv,hn',hl',hrd⟩=> ?_
    rw [hvv] at hrd ⊢
    obtain ⟨b,o,rfl,_⟩:=hrd.some (by decide);have hsl:svs.length=n:=(by rw [hsv,fromP_len]);have hcell:(lcs svs (fromP n xs i).ls)[i*2+0]? =some (.slice (some ⟨b,o,none⟩) 1 c'):=(by rw [Nat.add_zero,lcs_sv hsv oqz,hvv];rfl);rw [show (fromP n xs i).ls.length=n from fromP_len n xs i]
    refine tv (by first|exact o_load p234 rfl hsqz rfl|exact o_loadC p234 rfl (by assumption)) ?_;refine tlm ?_;refine tv (o_indexAddrN underlying234 sz241 rfl rfl oqz) ?_;refine tv (o_fieldAddr (o:=0) underlying241 rfl rfl sz239 rfl) ?_;refine tv (o_loadC p239 rfl (cell_of_has hsqz (by rw [Nat.zero_add];exact hcell))) ?_;refine tv (o_indexAddrN (j:=0) underlying239 sz238 rfl rfl (by decide)) ?_;refine Zz ?_;refine Zhq ?_;refine tc_loop (λ kk ρ BB=>∃ (k:Nat),(k<=8)/\ kk=8-k/\ ρ 35=(vn k)/\ ρ 0= .slice a m c/\ ρ 4=(pz d12)/\ ρ 6=(vn i)/\ ρ 7= .pointer (some ⟨b,o,none⟩)/\ ρ 22=(vn n)/\ ρ 23=(vn i)/\ BB=F*R*pt bl (cl (lcs svs (fromP n xs i).ls) 241)*pt d12 (cl (dcs bl n (fromP n xs i) av) 236)*Sl 8 (.slice (some ⟨b,o,none⟩) 1 c') 1 (wds (lineW xs i k))) (m:=8-(0)) ?_ ?_
    . exact ⟨0,by omega,rfl,rfl,rfl,rfl,rfl,rfl,rfl,rfl,by rw [lineW_zero];rfl⟩
    intro k ρ B hI;obtain ⟨k,hp0,hkk2,hE35,hE0,hE4,hE6,hE7,hE22,hE23,rfl⟩:=hI;refine te 35 hE35 ?_;refine te 0 hE0 ?_;refine te 4 hE4 ?_;refine te 6 hE6 ?_;refine te 7 hE7 ?_;refine te 22 hE22 ?_;refine te 23 hE23 ?_;refine Zb9 ?_;refine tc_cond rfl (sbq ?_) (sbq ?_)
    . intro h;refine Zen ?_;refine Za ?_;refine tc_regh (S:=F*R*pt bl (cl (lcs svs (fromP n xs i).ls) 241)*pt d12 (cl (dcs bl n (fromP n xs i) av) 236)) mo drqz ?_
      show TH _ _ _ _ _ 15 (Array.replicate 15 false) _ _
      refine Zea ?_;refine Zcy ?_;refine tm 4 rfl kqz rfl (by first|exact o_mulI rfl rfl oqz|exact o_mul rfl rfl) ?_;refine tm 5 rfl kqz rfl (o_move wqz) ?_;refine tm 6 rfl kqz rfl (by first|exact o_mulI rfl rfl oqz|exact o_mul rfl rfl) ?_;refine tm 7 rfl kqz rfl adqz ?_;refine th_env (d:=46) (v:=(vn (i*64+k*8))) (rfl) ?_;refine tm 12 rfl kqz rfl (o_nilCheck rfl) ?_;refine th_one (i:=8) kqz ?_;refine oh_c rfl rfl rfl (o_call bd67 rfl (Take64_c)) ?_;refine Zcp ?_;refine Zg9 ?_;refine tm 13 rfl kqz rfl (o_indexAddrAN1 (j:=k) underlying238 sz141 rfl rfl oqz) ?_;refine th_one (i:=14) kqz ?_;refine oh_u rfl rfl rfl (o_storeSlK (i:=k) (k:=8) (m:=1) (xs:=wds (lineW xs i k)) (ys:=wds ((lineW xs i k).set k (wordF xs i k))) sz141 rfl rfl rfl oqz (wds_set' _ _ _) (by repeat (first|with_reducible exact foc_here|apply foc_left))) drqz ?_;refine th_done kqz ?_;refine Zr ?_;refine Zbz ?_;exact ⟨_,by omega,k+1,by omega,rfl,rfl,rfl,rfl,rfl,rfl,rfl,rfl,by rw [←lineW_set xs i oqz]⟩
    intro h;refine Zcw ?_;refine tc_reg ?_;obtain rfl:k=8:=by omega
    have hfin:=hf2 F (.slice (some ⟨b,o,none⟩) 1 c') (lineF xs i);refine tl_eq (A':=F*DevC d12 bl (svs.set i (.slice (some ⟨b,o,none⟩) 1 c')) av kvs { fromP n xs i with ls:=(fromP n xs i).ls.set i (lineF xs i) }) ?_ ?_
    . rw [←hfin,←lineW_all]
      have e1:lcs (svs.set i (.slice (some ⟨b,o,none⟩) 1 c')) ((fromP n xs i).ls.set i ⟨[lineW xs i 8],-1⟩)=lcs svs (fromP n xs i).ls:=by
        rw [←lcs_set_sv (⟨[lineW xs i 8],-1⟩:LineS) hsv hi (by rw [fromP_at xs (show i<n by omega)];rfl)]
        have h1:i*2<(lcs svs (fromP n xs i).ls).length:=(by rw [lcs_length hsv];omega);have h2:=List.getElem?_eq_getElem h1;rw [Nat.add_zero] at hcell
        rw [hcell] at h2
        rw [Option.some.inj h2]
        exact set_getElem h1
      rw [e1,fromP_len];rfl
    refine tl_pre (dev_back (by rw [fromP_set xs (show i<n by omega)];exact fromP_wf hn hn2 hb) (by simp [hsv]) hkv) ?_;rw [fromP_set xs (show i<n by omega)]
    refine Zbz ?_;exact ⟨_,by omega,i+1,by omega,rfl,rfl,rfl,rfl,rfl,rfl⟩
  intro h;refine Zhb ?_;obtain rfl:i=n:=by omega
  rw [fromP_all]
  exact ⟨_,_,res2 rfl rfl rfl,λ _ _ h=>h,d12,rfl,rfl⟩
theorem sq6z {p:Prop}(h:p:=by exact rbqz):p:=h
theorem upqz {p:Prop}(h:p:=by repeat (first|with_reducible exact upd_here|with_reducible exact upd_pt|apply upd_left)):p:=h
theorem doneE_ok {s:DevS}(h:doneE s=0):(doneS s).off=s.off/\ (doneS s).ls=s.ls:=by
  unfold doneE at h;unfold doneS
  split<;>rename_i e
  . exact ⟨rfl,rfl⟩
  rw [e] at h
  split
  . exact ⟨rfl,rfl⟩
  rename_i h1;simp [h1] at h
theorem layS_off (p v:Nat)(s:DevS):(layS p v s).off=s.off:=(onLine_fields _ _ s).2.2.2.1
theorem layS_len (p v:Nat)(s:DevS):(layS p v s).ls.length=s.ls.length:=(onLine_fields _ _ s).2.2.2.2
theorem stW_len {p:Nat}{b:List Nat}{s:DevS}:(stW p b s).length=8:=by
  unfold stW;rw [spl_length,le_length];rw [le_length,List.length_take];omega
theorem stW_bytes {p:Nat}{b:List Nat}{s:DevS}(hb:∀x∈b,x<256):∀x∈stW p b s,x<256:=λ x hx=>by
  unfold stW spl at hx
  simp only [List.mem_append] at hx
  rcases hx with (h|h)|h
  . exact le_bytes _ _ _ (List.mem_of_mem_take h)
  . exact hb _ (List.mem_of_mem_take h)
  exact le_bytes _ _ _ (List.mem_of_mem_drop h)
theorem storeF_step {p:Nat}{b:List Nat}{s:DevS}(h:b≠[]):storeF b.length p b s=if doneE (layS (p-p%8) (nm (stW p b s)) s)≠0 then (doneE (layS (p-p%8) (nm (stW p b s)) s),doneS (layS (p-p%8) (nm (stW p b s)) s))
    else storeF (b.drop (8-p%8)).length (p+min b.length (8-p%8)) (b.drop (8-p%8)) (doneS (layS (p-p%8) (nm (stW p b s)) s)):=by
  match b,h with
  |x::l,_=>
    show storeF (l.length+1) p (x::l) s=_
    conv=>lhs;unfold storeF
    rw [if_neg (by simp)]
    split
    . rfl
    rw [Nat.min_comm];exact storeF_fuel _ _ (by rw [List.length_drop,List.length_cons];omega) (Nat.le_refl _)
theorem stW_cells {p n:Nat}{b:List Nat}{s:DevS}{w:Nat}(hw:w=(seenL (s.ls.getD (p/64) zline)).getD (p%64/8) 0)(hn:n=min b.length (8-p%8)):splice (bys (le 8 w)) (p%8) ((bys b).take n)=bys (stW p b s):=by
  have h1:(bys b).take n=bys (b.take (8-p%8)):=by
    unfold bys;rw [←List.map_take];congr 1
    rw [hn]
    rcases Nat.le_total b.length (8-p%8) with h|h
    . rw [Nat.min_eq_left h,List.take_length,List.take_of_length_le h]
    rw [Nat.min_eq_right h]
  rw [h1,splice_spl (by simp only [bys_length,le_length,List.length_take];omega),spl_bys,hw];rfl
theorem stW_nm {p:Nat}{b:List Nat}{s:DevS}(hb:∀x∈b,x<256):nm (stW p b s)<18446744073709551616:=by
  have:=nm_lt _ (stW_bytes (p:=p) (s:=s) hb);rw [stW_len] at this;exact this
theorem seenL_getD {s:DevS}{i:Nat}(h:i<s.ls.length):s.ls.getD i zline=s.ls[i]:=by simp [List.getD,h]
theorem Zcb {p r:Prop}(k:r)(h:Kq r->p:=by intro k;refine sr ?_;refine Zy ?_;exact k.o):p:=h ⟨k⟩
theorem Zt {p r:Prop}(k:r)(h:Kq r->p:=by intro k;refine tlm ?_;refine tlm ?_;exact k.o):p:=h ⟨k⟩
theorem Zgz {p r:Prop}(k:r)(h:Kq r->p:=by intro k;refine Zt ?_;refine tv (o_len underlying67 rfl) ?_;exact k.o):p:=h ⟨k⟩
theorem Zcu {p r:Prop}(k:r)(h:Kq r->p:=by intro k;rintro _ _ ⟨rfl,rfl⟩;refine Zz ?_;exact k.o):p:=h ⟨k⟩
theorem Zhc {p r:Prop}(k:r)(h:Kq r->p:=by intro k;refine Zcu ?_;refine Z5 ?_;exact k.o):p:=h ⟨k⟩
theorem Zff {p r:Prop}(k:r)(h:Kq r->p:=by intro k;refine Zb ?_;refine Zl ?_;exact k.o):p:=h ⟨k⟩
theorem Zg4 {p r:Prop}(k:r)(h:Kq r->p:=by intro k;refine Zff ?_;refine q_then_r ?_;exact k.o):p:=h ⟨k⟩
theorem Zd8 {p r:Prop}(k:r)(h:Kq r->p:=by intro k;refine tv (o_gtr rfl rfl) ?_;refine nq ?_;exact k.o):p:=h ⟨k⟩
theorem Zh4 {p r:Prop}(k:r)(h:Kq r->p:=by intro k;refine Zb ?_;refine tlm ?_;exact k.o):p:=h ⟨k⟩
theorem Zco {p r:Prop}(k:r)(h:Kq r->p:=by intro k;refine ⟨by repeat (first|with_reducible exact dr_refl|apply dr_keep|apply dr_drop), ?_⟩;refine th_one (i:=7) kqz ?_;exact k.o):p:=h ⟨k⟩
theorem Zbv {p r:Prop}(k:r)(h:Kq r->p:=by intro k;refine th_done kqz ?_;refine q_then_n ?_;exact k.o):p:=h ⟨k⟩
theorem Zda {p r:Prop}(k:r)(h:Kq r->p:=by intro k;refine tlm ?_;refine tv (by first|exact o_subI rfl rfl oqz|exact o_sub rfl rfl) ?_;exact k.o):p:=h ⟨k⟩
theorem Zh5 {p r:Prop}(k:r)(h:Kq r->p:=by intro k;rintro _ _ ⟨rfl,rfl⟩;refine Za ?_;exact k.o):p:=h ⟨k⟩
theorem Zb2 {p r:Prop}(k:r)(h:Kq r->p:=by intro k;refine Ze ?_;refine Zb ?_;exact k.o):p:=h ⟨k⟩
theorem Zcv {p r:Prop}(k:r)(h:Kq r->p:=by intro k;refine tlm ?_;refine tv adqz ?_;exact k.o):p:=h ⟨k⟩
theorem Zb0 {p r:Prop}(k:r)(h:Kq r->p:=by intro k;refine tc_reg ?_;refine Zt ?_;exact k.o):p:=h ⟨k⟩
theorem Zfx {p r:Prop}(k:r)(h:Kq r->p:=by intro k;refine Za ?_;refine Zb0 ?_;exact k.o):p:=h ⟨k⟩
theorem Zbf {p r:Prop}(k:r)(h:Kq r->p:=by intro k;refine tla ?_;refine tl_nil ?_;exact k.o):p:=h ⟨k⟩
theorem Zie {p r:Prop}(k:r)(h:Kq r->p:=by intro k;refine Zbf ?_;refine q_block_n (q_then_n ?_);exact k.o):p:=h ⟨k⟩
theorem Zcd {p r:Prop}(k:r)(h:Kq r->p:=by intro k;refine sr ?_;refine Zl ?_;exact k.o):p:=h ⟨k⟩
theorem StoreW_f (F:SP){a:Option Addr}{c m d:Nat}{p0:Int}{s:DevS}{xs:List Nat}(hr:Rs F a (bys xs))(hm:xs.length=m)(hmc:m<=c)(hb:∀x∈xs,x<256)(hml:m<=140737488351232)(hp: -9223372036854775808<=p0/\ p0<=9223372036854775807)(hroom:rdy s.ls.length s.off p0 m=0->Room m s):
    Fn Tryz.prog 263 #[pz d,.int .i64 p0,.slice a m c] (F*Dev d s) (λ r B=>r= .int .i64 (sto p0 xs s).1/\ B=F*Dev d (sto p0 xs s).2):=by
  have hE:= @fn_enterW Tryz.prog 263 Tryz.f263 _ [pz d,.int .i64 p0,.slice a m c] (F*Dev d s) (λ r B=>r= .int .i64 (sto p0 xs s).1/\ B=F*Dev d (sto p0 xs s).2) _ func263 rfl ntmps263 (by simp);refine hE ?_;clear hE;refine tc_dev λ hw _ _ _ _ _ _=> ?_
  have hpos:=hw.pos;have htop:=hw.top;refine tc_pre (dev_back hw ‹_› ‹_›) ?_;refine Zcb ?_;refine Zgz ?_;refine tl_c rfl (o_call bd193 rfl (ready_c)) ?_;refine Zhc ?_;refine tc_cond rfl (sbq ?_) (λ h=> ?_)
  . intro h;refine Zg4 ?_;have hs:sto p0 xs s=(rdy s.ls.length s.off p0 m,s):=(by unfold sto;rw [hm,if_pos h]);rw [hs]
    exact ⟨_,_,res1 rfl rfl,λ _ _ h=>h,rfl,rfl⟩
  simp only [bne_iff_ne,ne_eq,decide_eq_false_iff_not,Decidable.not_not] at h
  have hr0:=rdy0 h;obtain ⟨q,rfl⟩:=Int.eq_ofNat_of_zero_le hr0.2.1;have hsto:sto (q:Int) xs s=storeF xs.length q xs s:=(by unfold sto;rw [hm,if_neg oqz];rfl);rw [hsto]
  refine Zbe ?_;refine tc_loop (λ kk ρ BB=>∃ (p:Nat) (m1:Nat) (c1:Nat) (a1:Option Addr) (b:List Nat) (s1:DevS),(storeF b.length p b s1=storeF xs.length q xs s)/\ (b.length=m1)/\ (Rs F a1 (bys b))/\ (∀x∈b,x<256)/\ (m1<=c1)/\ (p+m1<=s1.ls.length*64)/\ (s1.off=false)/\ (Room m1 s1)/\ (m1<=m)/\ (s1.ls.length=s.ls.length)/\ kk=m1/\ ρ 1=(vn p)/\ ρ 2= .slice a1 m1 c1/\ ρ 0=(pz d)/\ BB=F*Dev d s1) (m:=(m)) ?_ ?_
  . exact ⟨q,m,c,a,xs,s,rfl,hm,hr,hb,hmc,by omega,hr0.1,hroom h,Nat.le_refl _,rfl,rfl,rfl,rfl,rfl,rfl⟩
  intro k ρ B hI;obtain ⟨p,m1,c1,a1,b,s1,hp0,hp1,hp2,hp3,hp4,hp5,hp6,hp7,hp8,hp9,hkk1,hE1,hE2,hE0,rfl⟩:=hI;refine te 1 hE1 ?_;refine te 2 hE2 ?_;refine te 0 hE0 ?_;refine Zm ?_;refine tv (o_len underlying67 rfl) ?_;refine Zd8 ?_;refine tc_cond rfl (λ h=> ?_) (sbq ?_)
  . simp only [decide_eq_true_eq,gt_iff_lt] at h
    have hb0:b≠[]:=(by intro e;subst e;simp at hp1;omega);have hpl:p/64<s1.ls.length:=(by omega);have hpn:p<=4194304:=(by omega);refine Zf4 ?_;refine Zh4 ?_;refine tv (o_remN (b:=8) rfl rfl oqz) ?_;refine tv (by first|exact o_subI rfl rfl oqz|exact o_sub rfl rfl) ?_;refine tl_env (d:=29) (v:=(vn (p-p%8))) (by show Value.int .i64 ((p:Int)-((p%8:Nat):Int))=_;congr 1;omega) ?_;refine Zfu ?_;refine tl_dev λ hw1 bl svs av kvs hsv hkv=> ?_
    refine tl_have (λ _ _ h=>devR_of hw1 hsv h) λ hR=> ?_
    have hwl:=hw1.line _ (List.getElem_mem hpl);have hs8:=hwl.eight _ (seenL_mem hwl);have hq1:(p-p%8)/64=p/64:=(by omega);have hq2:(p-p%8)%64/8=p%64/8:=(by omega);refine tv (o_fieldAddr (o:=0) underlying236 rfl rfl sz234 rfl) ?_;refine tv (o_load p234 rfl devC_d rfl) ?_;refine tlm ?_;refine tv (o_quoN (b:=64) rfl rfl oqz) ?_;refine tv (o_indexAddrN (j:=p/64) underlying234 sz241 rfl (by show Value.int .i64 _=Value.int .i64 _;congr 2) hpl) ?_;refine tl_c rfl (o_call bd156 rfl (seenR_f hR hpl)) ?_;rintro _ _ ⟨rfl,rfl⟩;refine tl_pre (dev_back hw1 hsv hkv) ?_;refine tl_x rfl (o_alloc z238 rfl) ?_;rintro _ _ ⟨b9,rfl,rfl⟩;refine tl_u rfl (o_stUN (l':=wds (seenL s1.ls[p/64])) rfl upd_here sz238 rfl (by rw [wds_length];exact hs8) (wds_all _) (by simp) (splice_all (by rw [wds_length,hs8];rfl))) ?_;refine nq ?_;refine sr ?_;refine tl_x rfl (o_alloc z404 rfl) ?_;rintro _ _ ⟨b10,rfl,rfl⟩;refine Zf2 ?_;refine tc_regh (S:=F*Dev d s1*pt b9 (cl (wds (seenL s1.ls[p/64])) 238)) mo drqz ?_
    show TH _ _ _ _ _ 8 (Array.replicate 8 false) _ _
    refine tm 0 rfl kqz rfl (o_sliceA underlying404 sz5 rfl bnd_none bnd_none oqz oqz) ?_;refine tm 1 rfl kqz rfl (o_move wqz) ?_;refine tm 2 rfl kqz rfl (o_remN (b:=64) rfl rfl oqz) ?_;refine tm 3 rfl kqz rfl (o_quoN (b:=8) rfl rfl oqz) ?_;refine tm 4 rfl kqz rfl (o_indexAddrAN1 (j:=p%64/8) underlying238 sz141 rfl (by show Value.int .i64 _=Value.int .i64 _;congr 2) oqz) ?_;refine tm 5 rfl kqz rfl (o_load p141 rfl hsqz (by rw [Nat.zero_add];exact wds_at (i:=p%64/8) (by rw [hs8];omega))) ?_;refine th_one (i:=6) kqz ?_;refine oh_c rfl rfl rfl (o_call bd73 rfl (Put64_c (xs:=[]) (hv:=hwl.words _ (seenL_mem hwl) _ (List.getElem_mem _)))) ?_;rintro _ _ ⟨a44,c44,rfl,hc44,rfl⟩;refine Zco ?_;refine oh_x rfl rfl rfl (o_cpB (m:=8) (l':=bys (le 8 ((seenL s1.ls[p/64])[p%64/8]'(by rw [hs8];omega)))) rfl upqz underlying67 sz5 rfl sq6z (by rw [bys_length,List.nil_append,le_length]) rfl (bys_all _) (by simp) (by rw [List.nil_append,List.take_of_length_le (by rw [bys_length,le_length];omega)];exact splice_all (by rw [bys_length,le_length];rfl))) ?_;refine Zcp ?_;refine Zbv ?_;refine Zb ?_;refine Zda ?_;refine tl_env (d:=48) (v:=(vn (p%8))) (by show Value.int .i64 ((p:Int)-((p-p%8:Nat):Int))=_;congr 1;omega) ?_;refine tv (o_sliceA underlying404 sz5 rfl (bnd_nat rfl) bnd_none oqz oqz) ?_;refine tl_env (d:=49) (v:= .slice (some ⟨b10,p%8,none⟩) (8-p%8) (8-p%8)) (by show Value.slice (cutAddr _ _ _ _) _ _=_;rw [cut_lt oqz];simp) ?_;refine tlm ?_;refine tl_x rfl (o_cpB (m:=min m1 (8-p%8)) (xs:=bys b) (l':=bys (stW p b s1)) rfl upqz underlying67 sz5 rfl sq6z (by rw [bys_length,hp1]) rfl (bys_all _) (by rw [bys_length,le_length];omega) (stW_cells (by rw [seenL_getD hpl];simp [List.getD,hs8,show p%64/8<8 by omega]) (by rw [hp1]))) ?_;refine Zh5 ?_;refine sr ?_;refine tv (o_sliceA underlying404 sz5 rfl bnd_none bnd_none oqz oqz) ?_;refine tl_env (d:=53) (v:= .slice (some ⟨b10,0,none⟩) 8 8) (rfl) ?_;refine tl_c rfl (o_call bd67 rfl (Take64_c (xs:=stW p b s1) (hm:=stW_len) (hb:=stW_bytes hp3) (p:=0))) ?_;rintro _ _ ⟨rfl,rfl⟩;refine Zbq ?_;refine tl_env (d:=12) (v:= .int .u64 ((nm (stW p b s1):Nat):Int)) (by show Value.int .u64 ((nm (((stW p b s1).drop 0).take 8):Nat):Int)=_;rw [List.drop_zero,List.take_of_length_le (by rw [stW_len];omega)]) ?_;refine Zy ?_;refine Zt ?_;have hrm1:Room 1 s1:=λ l hl=>by have:=hp7 l hl;omega
    refine tl_c rfl (o_call bd303 rfl (lay_c (p:=p-p%8) (hat:=by rw [hq1];exact hpl) (hv:=stW_nm hp3))) ?_;refine Zhc ?_;refine tc_cond rfl (sbq ?_) (λ h=> ?_)
    . intro h;refine Zff ?_;refine q_then_r (q_block_r (q_then_r (q_block_r (q_then_r ?_))))
      simp only [decide_eq_true_eq,ne_eq] at h
      have e:storeF xs.length q xs s=(doneE (layS (p-p%8) (nm (stW p b s1)) s1),doneS (layS (p-p%8) (nm (stW p b s1)) s1)):=(by rw [←hp0,storeF_step hb0,if_pos h]);exact ⟨.int .i64 (doneE (layS (p-p%8) (nm (stW p b s1)) s1)),F*Dev d (doneS (layS (p-p%8) (nm (stW p b s1)) s1)),res1 rfl rfl,Dr.sat drqz,by rw [e],by rw [e]⟩
    simp only [decide_eq_false_iff_not,ne_eq,Decidable.not_not] at h
    obtain ⟨hd1,hd2⟩:=doneE_ok h;have hstep:storeF (b.drop (8-p%8)).length (p+min m1 (8-p%8)) (b.drop (8-p%8)) (doneS (layS (p-p%8) (nm (stW p b s1)) s1))=storeF xs.length q xs s:=(by rw [←hp0,storeF_step hb0,if_neg (by simpa using h),hp1])
    have hrm2:Room (m1-min m1 (8-p%8)) (doneS (layS (p-p%8) (nm (stW p b s1)) s1)):=λ l hl=>by
      rw [hd2] at hl
      have h1:Room ((m1-1)+1) s1:=λ l hl=>by have:=hp7 l hl;omega
      have:=onLine_room (f:=layL ((p-p%8)%64/8) (nm (stW p b s1))) (i:=(p-p%8)/64) h1 (λ l=>by simp [layL]) l hl
      omega
    have hrs2:Rs F (cutAddr a1 c1 (min m1 (8-p%8)) 1) (bys (b.drop (8-p%8))):=by
      have h1:=rs_cut (l:=min m1 (8-p%8)) (k:=1) (cap:=c1) hp2 (by rw [bys_length];omega)
      have h2:(bys b).drop (min m1 (8-p%8)*1)=bys (b.drop (8-p%8)):=by
        unfold bys
        rw [←List.map_drop,Nat.mul_one];congr 1
        rcases Nat.le_total m1 (8-p%8) with h|h
        . rw [Nat.min_eq_left h,List.drop_of_length_le oqz,List.drop_of_length_le oqz]
        rw [Nat.min_eq_right h]
      rw [h2] at h1;exact h1
    refine Zb2 ?_;refine Zcv ?_;refine tl_env (d:=66) (v:= .int .i64 ((p+min m1 (8-p%8):Nat):Int)) (rfl) ?_;refine Zfx ?_;refine tv (o_slice underlying67 sz5 rfl (bnd_nat rfl) bnd_none (Nat.min_le_left _ _) hp4) ?_;refine tl_pre (Dr.sat (A':=F*Dev d (doneS (layS (p-p%8) (nm (stW p b s1)) s1))) drqz) ?_;refine Zie ?_;exact ⟨_,by omega,p+min m1 (8-p%8),m1-min m1 (8-p%8),_,_,b.drop (8-p%8),_,hstep,by rw [List.length_drop];omega,hrs2,λ x hx=>hp3 x (List.mem_of_mem_drop hx),by omega,by rw [hd2,layS_len];omega,by rw [hd1,layS_off];exact hp6,hrm2,by omega,by rw [hd2,layS_len];exact hp9,rfl,rfl,rfl,rfl,rfl⟩
  intro h;refine Zk ?_;refine Zcd ?_
  obtain rfl:b=[]:=by cases b with
    |nil=>rfl
    |cons _ _=>simp at hp1;omega
  have e:storeF xs.length q xs s=(0,s1):=(by rw [←hp0,storeF_nil]);exact ⟨.int .i64 0,F*Dev d s1,res1 rfl rfl,λ _ _ h=>h,by rw [e],by rw [e]⟩
theorem Store_c {A R:SP}{C:SP->SP}{d:Nat}{s:DevS}(hc:Ct A (Dev d s) R C:=by exact cbqz){a:Option Addr}{c m:Nat}{p:Int}{xs:List Nat}(hr:Rs R a (bys xs):=by exact rbqz)(hm:xs.length=m:=by first|assumption|rfl)(hmc:m<=c:=by first|assumption|omega)(hb:∀x∈xs,x<256:=by assumption)(hml:m<=140737488351232:=by omega)(hp: -9223372036854775808<=p/\ p<=9223372036854775807:=by omega)(hroom:rdy s.ls.length s.off p m=0->Room m s:=by assumption):
    Fn Tryz.prog 263 #[pz d,.int .i64 p,.slice a m c] A (λ r B=>∃e s2,sto p xs s=(e,s2)/\ r= .int .i64 e/\ B=C (Dev d s2)):=by
  obtain ⟨rfl,hC⟩:=hc;exact (StoreW_f R hr hm hmc hb hml hp hroom).mono λ _ _ h=>⟨(sto p xs s).1,(sto p xs s).2,rfl,h.1,by rw [hC];exact h.2⟩
structure RdA (A:SP) (a:Option Addr) (kvs:List Value) (ars:List (Int×List Int)):Prop where
  rd:Rs A a (acs kvs ars)
  len:kvs.length=ars.length
  keep:∀i (h:i<ars.length),∃b c,kvs[i]? =some (.slice b ars[i].2.length c)/\ ars[i].2.length<=c/\ Rs A b (ints ars[i].2)
theorem RdA.left {A X:SP}{a:Option Addr}{kvs:List Value}{ars:List (Int×List Int)}(h:RdA A a kvs ars):RdA (A*X) a kvs ars:=
  ⟨h.rd.left,h.len,λ i hi=>by obtain ⟨b,c,e,hc,hr⟩:=h.keep i hi;exact ⟨b,c,e,hc,hr.left⟩⟩
theorem sl_share {k n:Nat}{v:Value}{xs:List Value}{R:SP}{g:Gh}{w:World}(hs:sat g w (R*Sl k v n xs)):sat g w (R*SlR k v n xs):=by
  obtain ⟨hl,⟨e1,e2,h⟩|⟨b,off,cap,l,E,e1,h1,h2,h3,h⟩⟩:=sl_iff.1 hs
  . obtain ⟨x,ha,hx⟩:=h.hp;refine ⟨h.os,h.tape,h.out,x,⟨x,λ _=>none,λ _=> .inr (.inl rfl), ?_,ha,hl,.inl ⟨e1,e2,rfl⟩⟩,hx⟩
    funext b;simp [Hp.un]
  have h':=h.share;obtain ⟨_,⟨x,y,hd,rfl,ha,hb⟩,hx⟩:=h'.hp;exact ⟨h'.os,h'.tape,h'.out,_,⟨x,y,hd,rfl,ha,hl,.inr ⟨b,off,cap,l,E,e1,h1,h2,h3,hb⟩⟩,hx⟩
def badA (x:Int×List Int):Bool:=decide (x.1<1)||lowB x.2
def armS (ars:List (Int×List Int))(s:DevS):Int×DevS:=if s.off then (5,s) else if ars.any badA then (2,s) else if 64<ars.length+s.arms.length then (4,s) else (0,{ s with arms:=s.arms++ars })
theorem Size_c {A R:SP}{C:SP->SP}{d:Nat}{s:DevS}(hc:Ct A (Dev d s) R C:=by exact cbqz):Fn Tryz.prog 155 #[pz d] A (λ r B=>r= .int .i64 ((s.ls.length:Int)*64)/\ A=B):=by
  obtain ⟨rfl,hC⟩:=hc;exact fn_devR0 λ _ A bl svs av hR=>Size_f A d bl s.ls.length s av hR.d hR.wf.pos hR.wf.top
def cpB (ws:List Value)(ls:List LineS)(i:Nat):List Value:=lcs (ws++List.replicate (ls.length-i) (.slice none 0 0)) (ls.take i++List.replicate (ls.length-i) ⟨[],0⟩)
section
variable {α:Type} {f:α->List Value} {k:Nat}
theorem fm_length:∀{l:List α} (_:∀a∈l,(f a).length=k),(l.flatMap f).length=l.length*k
  |[],_=>by simp
  |a::l,h=>by
    rw [List.flatMap_cons,List.length_append,h a (by simp),fm_length (λ x hx=>h x (List.mem_cons_of_mem _ hx)),List.length_cons,Nat.add_mul];omega
theorem fm_drop:∀{l:List α} {i:Nat} (_:∀a∈l,(f a).length=k),(l.flatMap f).drop (i*k)=(l.drop i).flatMap f
  |[],i,_=>by simp
  |a::l,0,_=>by simp
  |a::l,i+1,h=>by
    have e:(i+1)*k=(f a).length+i*k:=(by rw [h a (by simp),Nat.add_mul];omega);rw [e,List.flatMap_cons,List.drop_length_add_append,fm_drop (λ x hx=>h x (List.mem_cons_of_mem _ hx)),List.drop_succ_cons]
theorem fm_at {l:List α}{i:Nat}(h:∀a∈l,(f a).length=k)(hi:i<l.length):((l.flatMap f).drop (i*k)).take k=f l[i]:=by
  rw [fm_drop h,List.drop_eq_getElem_cons hi,List.flatMap_cons]
  have:=h _ (List.getElem_mem hi)
  conv=>lhs;arg 1;rw [←this]
  rw [List.take_left]
theorem fm_atj {l:List α}{i j p:Nat}(h:∀a∈l,(f a).length=k)(hi:i<l.length)(hj:j<k)(hp:p=i*k+j):(l.flatMap f)[p]? =(f l[i])[j]? :=by
  subst hp;rw [←List.getElem?_drop,fm_drop h,List.drop_eq_getElem_cons hi,List.flatMap_cons,List.getElem?_append_left (by rw [h _ (List.getElem_mem hi)];exact hj)]
theorem fm_sn (l:List α)(a:α):l.flatMap f++f a=(l++[a]).flatMap f:=by simp
end
section
variable {α:Type} {f:α->SP}
def Bs (f:α->SP):List α->SP
  |[]=>emp
  |a::l=>Bs f l*f a
theorem bs_nil:Bs f []=emp:=rfl
theorem bs_cons (a:α)(l:List α):Bs f (a::l)=Bs f l*f a:=rfl
theorem bs_append:∀ (l m:List α),Bs f (l++m)=Bs f l*Bs f m
  |[],m=>(emp_star _).symm
  |a::l,m=>by rw [List.cons_append,bs_cons,bs_cons,bs_append l m,star_swap]
theorem bs_snoc (l:List α)(a:α):Bs f (l++[a])=Bs f l*f a:=by rw [bs_append,bs_cons,bs_nil,emp_star]
theorem bs_get:∀{l:List α} {i:Nat} (hi:i<l.length),∃R,Bs f l=R*f l[i]/\∀y,Bs f (l.set i y)=R*f y
  |a::l,0,_=>⟨Bs f l,rfl,λ _=>rfl⟩
  |a::l,i+1,hi=>by
    obtain ⟨R,h1,h2⟩:=bs_get (l:=l) (i:=i) (by simpa using hi);refine ⟨R*f a, ?_,λ y=> ?_⟩
    . simp only [bs_cons,List.getElem_cons_succ];rw [h1,star_swap]
    simp only [List.set_cons_succ,bs_cons];rw [h2,star_swap]
end
theorem rs_cutC {A:SP}{a:Option Addr}{cap l:Nat}{X:List Nat}(h:Rs A a (bys X))(hx:X.length<=cap):Rs A (cutAddr a cap l 1) (bys (X.drop l)):=by
  have:=rs_cut (l:=l) (k:=1) (cap:=cap) h (by rw [bys_length];omega);rw [Nat.mul_one] at this
  unfold bys at this ⊢
  rwa [←List.map_drop] at this
theorem bys_takeG (xs:List Nat)(n:Nat):(bys xs).take n=bys (xs.take n):=by simp [bys,List.map_take]
theorem rs_mid {A:SP}{a:Option Addr}{cap l m:Nat}{X:List Nat}(h:Rs A a (bys X))(hx:X.length<=cap):Rs A (cutAddr a cap l 1) (bys ((X.drop l).take m)):=by
  rw [←bys_takeG];exact (rs_cutC h hx).sub m
structure ME where
  k:Int
  v:Value
  b:Nat
structure MS where
  D:List ME
  c:Nat
def ment (ik:IntKind)(e:ME):MapEntry:=⟨.int ik e.k,e.v,e.b⟩
def mpo (ik:IntKind)(M:MS):Obj:= .map (M.D.map (ment ik)).toArray M.c
def mfind:List ME->Int->Nat->Option (Nat×Value)
  |[],_,_=>none
  |e::D,a,i=>if a=e.k then some (i,e.v) else mfind D a (i+1)
def MS.get (M:MS)(a:Int):Option Value:=(mfind M.D a 0).map Prod.snd
def MS.put (M:MS)(a:Int)(v:Value):MS:=match mfind M.D a 0 with
  |some (i,_)=>⟨M.D.modify i (λ e=>⟨e.k,v,e.b⟩),M.c⟩
  |none=>⟨M.D++[⟨a,v,M.c⟩],M.c+1⟩
def MS.del (M:MS)(a:Int):MS:=match mfind M.D a 0 with
  |some (i,_)=>⟨M.D.eraseIdx i,M.c⟩
  |none=>M
def MS.clr (M:MS):MS:=⟨[],M.c⟩
structure WfM (M:MS):Prop where
  keys:(M.D.map ME.k).Nodup
  born:(M.D.map ME.b).Nodup
  past:∀e∈M.D,e.b<M.c
theorem mfind_i:∀{D:List ME} {a:Int} {i:Nat},mfind D a i=(mfind D a 0).map λ p=>(p.1+i,p.2)
  |[],_,_=>rfl
  |e::D,a,i=>by
    unfold mfind
    split
    . simp
    rw [mfind_i (i:=i+1),mfind_i (i:=0+1)]
    cases mfind D a 0<;>simp;omega
theorem mfind_some:∀{D:List ME} {a:Int} {i:Nat} {v:Value},mfind D a 0=some (i,v)->∃h:i<D.length,D[i].k=a/\ D[i].v=v
  |e::D,a,i,v,h=>by
    unfold mfind at h
    split at h
    . rename_i he
      simp only [Option.some.injEq,Prod.mk.injEq] at h
      obtain ⟨rfl,rfl⟩:=h;exact ⟨by simp,he.symm,rfl⟩
    rw [mfind_i] at h
    cases hm:mfind D a 0 with
    |none=>rw [hm] at h;cases h
    |some p=>
      rw [hm] at h
      simp only [Option.map_some,Option.some.injEq,Prod.mk.injEq] at h
      obtain ⟨rfl,rfl⟩:=h;obtain ⟨h1,h2,h3⟩:=mfind_some (D:=D) (i:=p.1) (v:=p.2) hm;exact ⟨by simp;omega,by simpa using h2,by simpa using h3⟩
theorem mfind_none:∀{D:List ME} {a:Int},mfind D a 0=none->∀e∈D,e.k≠a
  |[],_,_=>by simp
  |x::D,a,h=>by
    unfold mfind at h
    split at h
    . cases h
    rename_i hx
    rw [mfind_i] at h
    have hm:mfind D a 0=none:=(by cases hm:mfind D a 0<;>rw [hm] at h<;>first|rfl|cases h);intro e he
    rcases List.mem_cons.1 he with rfl|he
    . exact λ e=>hx e.symm
    exact mfind_none hm e he
theorem mfind_cons (e:ME)(D:List ME)(a:Int)(i:Nat):mfind (e::D) a i=if a=e.k then some (i,e.v) else mfind D a (i+1):=rfl
theorem mfind_append:∀{D E:List ME} {a:Int},mfind (D++E) a 0=(mfind D a 0).or (mfind E a D.length)
  |[],E,a=>by simp [mfind]
  |x::D,E,a=>by
    rw [List.cons_append,mfind_cons,mfind_cons]
    split
    . simp
    rw [mfind_i,mfind_append,mfind_i (i:=0+1) (D:=D)]
    have:mfind E a (x::D).length=(mfind E a D.length).map λ p=>(p.1+1,p.2):=by
      rw [mfind_i,mfind_i (i:=D.length)];cases mfind E a 0<;>simp;omega
    rw [this]
    cases mfind D a 0<;>simp
theorem mfind_modify:∀{D:List ME} {a c:Int} {i:Nat} {u v:Value},mfind D a 0=some (i,u)->mfind (D.modify i λ e=>⟨e.k,v,e.b⟩) c 0=if a=c then some (i,v) else mfind D c 0
  |e::D,a,c,i,u,v,h=>by
    unfold mfind at h
    split at h
    . rename_i he
      simp only [Option.some.injEq,Prod.mk.injEq] at h
      obtain ⟨rfl,rfl⟩:=h;subst he;rw [List.modify_zero_cons]
      unfold mfind
      by_cases hc:e.k=c
      . rw [if_pos hc.symm,if_pos hc]
      rw [if_neg (λ h=>hc h.symm),if_neg hc,if_neg (λ h=>hc h.symm)]
    rename_i he
    rw [mfind_i] at h
    cases hm:mfind D a 0 with
    |none=>rw [hm] at h;cases h
    |some p=>
      rw [hm] at h
      simp only [Option.map_some,Option.some.injEq,Prod.mk.injEq] at h
      obtain ⟨rfl,rfl⟩:=h;rw [List.modify_succ_cons]
      have ih:=mfind_modify (c:=c) (v:=v) (i:=p.1) (u:=p.2) hm
      unfold mfind
      by_cases hc:c=e.k
      . subst hc;rw [if_pos rfl,if_neg he,if_pos rfl]
      rw [if_neg hc,if_neg hc,mfind_i,ih]
      split
      . simp
      rw [mfind_i (i:=0+1)]
theorem MS.get_put {M:MS}{a c:Int}{v:Value}:(M.put a v).get c=if a=c then some v else M.get c:=by
  unfold MS.put MS.get
  cases h:mfind M.D a 0 with
  |some p=>
    obtain ⟨i,u⟩:=p
    simp only []
    rw [mfind_modify h]
    split<;>rfl
  |none=>
    simp only []
    rw [mfind_append]
    by_cases hc:a=c
    . subst hc;rw [h,if_pos rfl];simp [mfind]
    rw [if_neg hc]
    have:mfind [(⟨a,v,M.c⟩:ME)] c M.D.length=none:=(by simp [mfind,Ne.symm hc]);rw [this,Option.or_none]
theorem MS.get_nil {c:Nat}{a:Int}:(⟨[],c⟩:MS).get a=none:=rfl
theorem wfM_put {M:MS}{a:Int}{v:Value}(h:WfM M):WfM (M.put a v):=by
  unfold MS.put
  cases hf:mfind M.D a 0 with
  |some p=>
    obtain ⟨i,u⟩:=p
    have e1:∀ (l:List ME) (i:Nat),(l.modify i λ e=>⟨e.k,v,e.b⟩).map ME.k=l.map ME.k:=λ l i=>by
      apply List.ext_getElem?;intro j;simp only [List.getElem?_map,List.getElem?_modify];cases l[j]? <;>simp;split<;>rfl
    have e2:∀ (l:List ME) (i:Nat),(l.modify i λ e=>⟨e.k,v,e.b⟩).map ME.b=l.map ME.b:=λ l i=>by
      apply List.ext_getElem?;intro j;simp only [List.getElem?_map,List.getElem?_modify];cases l[j]? <;>simp;split<;>rfl
    refine ⟨by simp only [];rw [e1];exact h.keys,by simp only [];rw [e2];exact h.born,λ e he=> ?_⟩
    simp only [] at he ⊢
    have hb:e.b∈(M.D.modify i λ e=>⟨e.k,v,e.b⟩).map ME.b:=List.mem_map_of_mem he;rw [e2] at hb
    obtain ⟨e',he',hbe⟩:=List.mem_map.1 hb;rw [←hbe];exact h.past e' he'
  |none=>
    have hn:=mfind_none hf;refine ⟨?_, ?_,λ e he=> ?_⟩
    . simp only [List.map_append,List.map_cons,List.map_nil]
      exact List.nodup_append.2 ⟨h.keys,by simp,λ x hx y hy=>by
        simp only [List.mem_singleton] at hy;subst hy
        obtain ⟨e,he,rfl⟩:=List.mem_map.1 hx
        exact hn e he⟩
    . simp only [List.map_append,List.map_cons,List.map_nil]
      exact List.nodup_append.2 ⟨h.born,by simp,λ x hx y hy=>by
        simp only [List.mem_singleton] at hy;subst hy
        obtain ⟨e,he,rfl⟩:=List.mem_map.1 hx
        have:=h.past e he;omega⟩
    rcases List.mem_append.1 he with he|he
    . have:=h.past e he;show e.b<M.c+1;omega
    simp only [List.mem_singleton] at he;subst he;exact Nat.lt_succ_self _
theorem findNow_e {ik:IntKind}{a:Int}:∀ (D:List ME) (i:Nat),Instr.findNow (.int ik) (.int ik a) (D.map (ment ik)) i=some (mfind D a i)
  |[],i=>rfl
  |e::D,i=>by
    simp only [List.map_cons,Instr.findNow,ment,Instr.sameNow,if_true]
    unfold mfind
    by_cases h:a=e.k
    . subst h;simp
    have:(a==e.k)=false:=(by simpa using h);rw [this,if_neg h];exact findNow_e D (i+1)
section
variable {P:Program} {w:World} {ik:IntKind} {kt:TypeId}
theorem run_findKey {D:List ME}{a:Int}(hk:P.underlying kt=some (.int ik)):(Instr.findKey kt (.int ik a) (D.map (ment ik))).run P w= .ok (mfind D a 0) w:=by
  unfold Instr.findKey
  rw [run_bind (run_und hk),findNow_e];rfl
theorem run_checkKey {b:Bool}{a:Int}(hk:P.underlying kt=some (.int ik)):(Instr.checkKey b 10000 kt (.int ik a)).run P w= .ok () w:=by
  show (Instr.checkKey b (9999+1) kt (.int ik a)).run P w=_
  rw [Instr.checkKey,run_bind (run_und hk)];rfl
theorem run_getMap {b:Nat}{M:MS}(h:w.heap[b]? =some (mpo ik M)):(getObj b).run P w= .ok (mpo ik M) w:=by
  simp [getObj,Sem.run,h,mpo]
theorem run_setMap {b:Nat}{M:MS}{o:Obj}(h:w.heap[b]? =some (mpo ik M)):(setObj b o).run P w= .ok () { w with heap:=w.heap.setIfInBounds b o }:=by
  simp [setObj,Sem.run,h,mpo]
end
theorem set_heap {w:World}{b:Nat}{o o':Obj}(h:w.heap[b]? =some o)(k:Nat):({ w with heap:=w.heap.setIfInBounds b o' }:World).heap[k]? =if k=b then some o' else w.heap[k]? :=by
  show (w.heap.setIfInBounds b o')[k]? =_
  rw [Array.getElem?_setIfInBounds]
  have hb:b<w.heap.size:=by
    rcases Nat.lt_or_ge b w.heap.size with h1|h1
    . exact h1
    rw [Array.getElem?_eq_none h1] at h;cases h
  by_cases hk:b=k
  . subst hk;simp [hb]
  rw [if_neg hk,if_neg (Ne.symm hk)]
section
variable {P:Program} {n:Nat} {ρ:Env} {A:SP} {dst:Option Tmp} {ty:TypeId} {pos:String} {after:Array Edge} {gd:Option (Nat×Bool)} {ik:IntKind} {kt et t:TypeId} {x y:Operand} {b:Nat} {M M':MS} {a:Int} {A':SP} {z:Value}
theorem o_makeMap (hu:P.underlying t=some (.map kt et)):OpX P n ρ A ⟨dst,.makeMap t none,ty,pos,after,gd⟩ (λ v B=>∃b,v= .map (some b)/\ B=A*pt b (mpo ik ⟨[],0⟩)):=λ g w hs=>by
  refine ⟨_,w.alloc (mpo ik ⟨[],0⟩),_, ?_,hs.alloc _,w.heap.size,rfl,rfl⟩
  simp only [execOp,Option.map_none]
  rw [run_bind (a:= .map (some w.heap.size)) (w':=w.alloc (mpo ik ⟨[],0⟩))]
  . rfl
  rfl
theorem o_lookup (hu:P.underlying t=some (.map kt et))(hk:P.underlying kt=some (.int ik))(hz:zeroE P et=some z)(hx:ev n ρ x= .map (some b))(hy:ev n ρ y= .int ik a)(hh:Has A b (mpo ik M)):
    OpV P n ρ A ⟨dst,.lookup t x y false,ty,pos,after,gd⟩ ((M.get a).getD z):=λ g w hs=>by
  have h:=hh g w hs
  simp only [execOp,hx,hy]
  rw [run_bind (a:=(M.get a).getD z) (w':=w)]
  . rfl
  unfold Instr.lookup
  rw [run_bind (run_und hu)]
  simp only []
  rw [run_bind (run_getMap h)]
  simp only [mpo]
  rw [run_bind (a:=(M.D.map (ment ik)).toArray) (w':=w) rfl,run_bind (run_checkKey hk),run_bind (run_findKey hk)]
  unfold MS.get
  cases mfind M.D a 0 with
  |none=>simp only [Option.map_none,Option.getD_none];rw [run_bind (run_zeroV hz)];rfl
  |some p=>rfl
theorem o_lookupOk (hu:P.underlying t=some (.map kt et))(hk:P.underlying kt=some (.int ik))(hz:zeroE P et=some z)(hx:ev n ρ x= .map (some b))(hy:ev n ρ y= .int ik a)(hh:Has A b (mpo ik M)):
    OpV P n ρ A ⟨dst,.lookup t x y true,ty,pos,after,gd⟩ (.tuple #[(M.get a).getD z,.bool (M.get a).isSome]):=λ g w hs=>by
  have h:=hh g w hs
  simp only [execOp,hx,hy]
  rw [run_bind (a:= .tuple #[(M.get a).getD z,.bool (M.get a).isSome]) (w':=w)]
  . rfl
  unfold Instr.lookup
  rw [run_bind (run_und hu)]
  simp only []
  rw [run_bind (run_getMap h)]
  simp only [mpo]
  rw [run_bind (a:=(M.D.map (ment ik)).toArray) (w':=w) rfl,run_bind (run_checkKey hk),run_bind (run_findKey hk)]
  unfold MS.get
  cases mfind M.D a 0 with
  |none=>simp only [Option.map_none,Option.getD_none,Option.isSome_none];rw [run_bind (run_zeroV hz)];rfl
  |some p=>rfl
theorem o_mapUpdate {v:Value}{u:Operand}(hu:P.underlying t=some (.map kt et))(hk:P.underlying kt=some (.int ik))(hx:ev n ρ x= .map (some b))(hup:Upd A b (mpo ik M) (mpo ik M') A')(hy:ev n ρ y= .int ik a)(hv:ev n ρ u=v)(he:M.put a v=M'):
    OpU P n ρ A ⟨dst,.mapUpdate t x y u,ty,pos,after,gd⟩ A':=λ g w hs=>by
  have h:=hup.has g w hs;refine ⟨{ w with heap:=w.heap.setIfInBounds b (mpo ik M') }, ?_,hup.sat hs (set_heap h) rfl rfl rfl⟩
  simp only [execOp,hx,hy,hv]
  rw [run_bind (a:=()) (w':={ w with heap:=w.heap.setIfInBounds b (mpo ik M') })]
  . rfl
  unfold Instr.mapUpdate
  rw [run_bind (run_und hu)]
  simp only []
  rw [run_bind (run_getMap h)]
  simp only [mpo]
  rw [run_bind (run_checkKey hk),run_bind (run_findKey hk)]
  subst he
  unfold MS.put
  cases hf:mfind M.D a 0 with
  |none=>
    simp only []
    rw [run_setMap h]
    simp [mpo,ment]
  |some p=>
    obtain ⟨i,u0⟩:=p;obtain ⟨hi,h1,_⟩:=mfind_some hf
    simp only []
    have hkk:((((M.D.map (ment ik)).toArray[i]?).map (·.key)).getD (.int ik a))= .int ik a:=(by simp [hi,ment,h1]);rw [hkk,run_bind (a:= .int ik a) (w':=w)]
    . rw [run_setMap h]
      congr 3
      simp only [mpo,Obj.map.injEq,and_true]
      apply Array.ext'
      simp only [Array.toList_modify,List.toList_toArray]
      apply List.ext_getElem?
      intro j
      simp only [List.getElem?_modify,List.getElem?_map]
      by_cases hj:i=j
      . subst hj;rw [List.getElem?_eq_getElem hi];simp [ment,h1]
      simp only [if_neg hj]
      cases M.D[j]? <;>simp
    unfold Instr.keyThatStays
    have:Instr.sameBits 10000 (.int ik a) (.int ik a)=true:=(by simp [Instr.sameBits]);rw [if_pos this];rfl
end
end Go.Vl

namespace Go.Proofs
open Go.Shelf
def Tryz.sortA_ren:Go.Shelf.Ren:=⟨λ|5=>260|8=>302|7=>301|19=>333|20=>334|10=>324|11=>325|12=>326|13=>327|14=>328|15=>329|16=>330|17=>331|18=>332|30=>345|31=>346|32=>347|33=>348|34=>349|35=>350|40=>354|n=>n,λ|23=>34|25=>3|3=>3|32=>254|22=>34|0=>0|44=>53|46=>141|4=>4|36=>424|35=>423|41=>428|5=>5|9=>9|53=>440|57=>444|63=>446|64=>100|n=>n,λ|n=>n⟩
theorem Tryz.sortA:Go.Proofs.SlLaysM.n5 Tryz.prog Tryz.sortA_ren:={
  mixed:=by kernel_rfl
  f5:=⟨Tryz.f260.name,by decide,func260.trans (congrArg some (by kernel_rfl))⟩
  f7:=⟨Tryz.f301.name,by decide,func301.trans (congrArg some (by kernel_rfl))⟩
  f8:=func302.trans (congrArg some (by kernel_rfl))
  f10:=⟨Tryz.f324.name,by decide,func324.trans (congrArg some (by kernel_rfl))⟩
  f11:=⟨Tryz.f325.name,by decide,func325.trans (congrArg some (by kernel_rfl))⟩
  f12:=⟨Tryz.f326.name,by decide,func326.trans (congrArg some (by kernel_rfl))⟩
  f13:=⟨Tryz.f327.name,by decide,func327.trans (congrArg some (by kernel_rfl))⟩
  f14:=⟨Tryz.f328.name,by decide,func328.trans (congrArg some (by kernel_rfl))⟩
  f15:=⟨Tryz.f329.name,by decide,func329.trans (congrArg some (by kernel_rfl))⟩
  f16:=⟨Tryz.f330.name,by decide,func330.trans (congrArg some (by kernel_rfl))⟩
  f17:=⟨Tryz.f331.name,by decide,func331.trans (congrArg some (by kernel_rfl))⟩
  f18:=⟨Tryz.f332.name,by decide,func332.trans (congrArg some (by kernel_rfl))⟩
  f19:=func333.trans (congrArg some (by kernel_rfl))
  f20:=func334.trans (congrArg some (by kernel_rfl))
  f30:=⟨Tryz.f345.name,by decide,func345.trans (congrArg some (by kernel_rfl))⟩
  f31:=func346.trans (congrArg some (by kernel_rfl))
  f32:=func347.trans (congrArg some (by kernel_rfl))
  f33:=⟨Tryz.f348.name,by decide,func348.trans (congrArg some (by kernel_rfl))⟩
  f34:=⟨Tryz.f349.name,by decide,func349.trans (congrArg some (by kernel_rfl))⟩
  f35:=⟨Tryz.f350.name,by decide,func350.trans (congrArg some (by kernel_rfl))⟩
  f40:=⟨Tryz.f354.name,by decide,func354.trans (congrArg some (by kernel_rfl))⟩
  t0:=underlying0
  a0:=Tryz.isAgg0
  z0:=Tryz.sizeOf0
  v0:=Tryz.zeroValue0
  t3:=underlying3
  a3:=Tryz.isAgg3
  z3:=Tryz.sizeOf3
  v3:=Tryz.zeroValue3
  t4:=underlying4
  a4:=Tryz.isAgg4
  z4:=Tryz.sizeOf4
  v4:=Tryz.zeroValue4
  t5:=underlying5
  a5:=Tryz.isAgg5
  z5:=Tryz.sizeOf5
  v5:=Tryz.zeroValue5
  t9:=underlying9
  a9:=Tryz.isAgg9
  z9:=Tryz.sizeOf9
  v9:=Tryz.zeroValue9
  t22:=underlying34
  a22:=Tryz.isAgg34
  z22:=Tryz.sizeOf34
  v22:=Tryz.zeroValue34
  t23:=underlying34
  a23:=Tryz.isAgg34
  z23:=Tryz.sizeOf34
  v23:=Tryz.zeroValue34
  t25:=underlying3
  a25:=Tryz.isAgg3
  z25:=Tryz.sizeOf3
  v25:=Tryz.zeroValue3
  t32:=underlying254
  a32:=Tryz.isAgg254
  z32:=Tryz.sizeOf254
  v32:=Tryz.zeroValue254
  t35:=underlying423
  a35:=Tryz.isAgg423
  z35:=Tryz.sizeOf423
  v35:=Tryz.zeroValue423
  t36:=underlying424
  a36:=Tryz.isAgg424
  z36:=Tryz.sizeOf424
  v36:=Tryz.zeroValue424
  t41:=underlying428
  a41:=Tryz.isAgg428
  z41:=Tryz.sizeOf428
  v41:=Tryz.zeroValue428
  t44:=underlying53
  a44:=Tryz.isAgg53
  z44:=Tryz.sizeOf53
  v44:=Tryz.zeroValue53
  t46:=underlying141
  a46:=Tryz.isAgg141
  z46:=Tryz.sizeOf141
  v46:=Tryz.zeroValue141
  t53:=underlying440
  a53:=Tryz.isAgg440
  z53:=Tryz.sizeOf440
  v53:=Tryz.zeroValue440
  t57:=underlying444
  a57:=Tryz.isAgg444
  z57:=Tryz.sizeOf444
  v57:=Tryz.zeroValue444
  t63:=underlying446
  a63:=Tryz.isAgg446
  z63:=Tryz.sizeOf446
  v63:=Tryz.zeroValue446
  t64:=underlying100
  a64:=Tryz.isAgg100
  z64:=Tryz.sizeOf100
  v64:=Tryz.zeroValue100 }
def Tryz.sortedA_ren:Go.Shelf.Ren:=⟨λ|6=>202|8=>259|9=>260|11=>300|13=>302|12=>301|23=>333|24=>334|14=>324|15=>325|16=>326|17=>327|18=>328|19=>329|20=>330|21=>331|22=>332|25=>345|26=>346|27=>347|28=>348|29=>349|30=>350|31=>354|n=>n,λ|26=>3|28=>293|24=>34|0=>0|3=>3|37=>254|48=>53|50=>141|4=>4|40=>424|39=>423|45=>428|5=>5|9=>9|51=>440|55=>444|57=>446|58=>100|33=>233|n=>n,λ|n=>n⟩
theorem Tryz.sortedA:Go.Proofs.SlLaysZI.n6 Tryz.prog Tryz.sortedA_ren:={
  mixed:=by kernel_rfl
  f6:=⟨Tryz.f202.name,by decide,func202.trans (congrArg some (by kernel_rfl))⟩
  f8:=⟨Tryz.f259.name,by decide,func259.trans (congrArg some (by kernel_rfl))⟩
  f11:=⟨Tryz.f300.name,by decide,func300.trans (congrArg some (by kernel_rfl))⟩
  t0:=underlying0
  a0:=Tryz.isAgg0
  z0:=Tryz.sizeOf0
  v0:=Tryz.zeroValue0
  t24:=underlying34
  a24:=Tryz.isAgg34
  z24:=Tryz.sizeOf34
  v24:=Tryz.zeroValue34
  t26:=underlying3
  a26:=Tryz.isAgg3
  z26:=Tryz.sizeOf3
  v26:=Tryz.zeroValue3
  t28:=underlying293
  a28:=Tryz.isAgg293
  z28:=Tryz.sizeOf293
  v28:=Tryz.zeroValue293
  i26:=by kernel_rfl }
def Tryz.keysA_ren:Go.Shelf.Ren:=⟨λ|7=>203|10=>261|n=>n,λ|23=>124|26=>3|3=>4|28=>293|0=>0|27=>292|33=>233|4=>4|n=>n,λ|n=>n⟩
theorem Tryz.keysA:Go.Proofs.SlLaysZI.n7 Tryz.prog Tryz.keysA_ren:={
  mixed:=by kernel_rfl
  f7:=⟨Tryz.f203.name,by decide,func203.trans (congrArg some (by kernel_rfl))⟩
  f10:=⟨Tryz.f261.name,by decide,func261.trans (congrArg some (by kernel_rfl))⟩
  t0:=underlying0
  a0:=Tryz.isAgg0
  z0:=Tryz.sizeOf0
  v0:=Tryz.zeroValue0
  t4:=underlying4
  a4:=Tryz.isAgg4
  z4:=Tryz.sizeOf4
  v4:=Tryz.zeroValue4
  t23:=underlying124
  a23:=Tryz.isAgg124
  z23:=Tryz.sizeOf124
  v23:=Tryz.zeroValue124
  t26:=underlying3
  a26:=Tryz.isAgg3
  z26:=Tryz.sizeOf3
  v26:=Tryz.zeroValue3
  t27:=underlying292
  a27:=Tryz.isAgg292
  z27:=Tryz.sizeOf292
  v27:=Tryz.zeroValue292
  t28:=underlying293
  a28:=Tryz.isAgg293
  z28:=Tryz.sizeOf293
  v28:=Tryz.zeroValue293
  t33:=underlying233
  a33:=Tryz.isAgg233
  z33:=Tryz.sizeOf233
  v33:=Tryz.zeroValue233 }
end Go.Proofs

namespace Go.Vl
open Go Go.Proofs Go.Proofs.Tryz
theorem sat_ext {g:Gh}{w w':World}{A:SP}(h:sat g w A)(hh:∀ (k:Nat) (o:Obj),w.heap[k]? =some o->w'.heap[k]? =some o)(h1:w'.os=w.os)(h2:w'.tape=w.tape)(h3:w'.output=w.output):sat g w' A:=
  ⟨h1.trans h.os,h2.trans h.tape,h3.trans h.out,let ⟨x,ha,hx⟩:=h.hp;⟨x,ha,λ b o f hb=>hh _ _ (hx b o f hb)⟩⟩
def putL (off:Nat)(ys:List Value)(L:List Value):List Value:=L.mapIdx λ k x=>if off<=k/\ k<off+ys.length then ys.getD (k-off) x else x
theorem putL_len (off:Nat)(ys L:List Value):(putL off ys L).length=L.length:=by simp [putL]
theorem putL_sub {off:Nat}{ys L:List Value}(h:off+ys.length<=L.length):((putL off ys L).drop off).take ys.length=ys:=by
  apply List.ext_getElem?
  intro j;rw [List.getElem?_take,List.getElem?_drop]
  by_cases hj:j<ys.length
  . rw [if_pos hj]
    unfold putL
    rw [List.getElem?_mapIdx,List.getElem?_eq_getElem (show off+j<L.length by omega)]
    simp only [Option.map_some]
    rw [if_pos oqz,show off+j-off=j by omega,List.getD_eq_getElem?_getD,List.getElem?_eq_getElem hj];rfl
  rw [if_neg hj,List.getElem?_eq_none oqz]
theorem Sort_c {A R:SP}{C:SP->SP}{a:Option Addr}{c m:Nat}{zs:List Int}(hc:Ct A (Sl 1 (.slice a m c) m (ints zs)) R C:=by exact cbqz)(hm:zs.length=m:=by first|assumption|rfl)(hl:m<4611686018427387904:=by omega):
    Fn Tryz.prog 260 #[.slice a m c] A (λ v B=>v= .tuple #[]/\ B=C (Sl 1 (.slice a m c) m (ints (zs.mergeSort λ x y=>decide (x<=y))))):=by
  obtain ⟨rfl,hC⟩:=hc;subst hm;intro g w hs;obtain ⟨h1,⟨e1,e2,e3⟩|⟨b,off,cap,L,E,e1,h2,h3,h4,hs'⟩⟩:=sl_iff.1 hs
  . simp only [Value.slice.injEq] at e1
    obtain ⟨rfl,_,rfl⟩:=e1;obtain rfl:=List.eq_nil_of_length_eq_zero e2;refine (Go.Proofs.AnyM.slices_Sort_int_none Go.Proofs.Tryz.sortA none 0 w).mono ?_;rintro e w' ⟨rfl,rfl⟩;exact ⟨_,_,rfl,⟨rfl,rfl⟩,by rw [hC,List.mergeSort_nil];exact hs⟩
  simp only [Value.slice.injEq] at e1
  obtain ⟨rfl,_,rfl⟩:=e1;have hb:w.heap[b]? =some (cl L E):=has_here g w hs'
  have hblk:b<w.heap.size:=by
    rcases Nat.lt_or_ge b w.heap.size with h|h
    . exact h
    rw [Array.getElem?_eq_none h] at hb;cases hb
  have hsz:off+zs.length<=L.length:=(by omega)
  have hH:Go.Sort.Holds (Value.int .i64) w b off zs.toArray:=λ j hj=>by
    have hj':j<zs.length:=(by simpa using hj);refine ⟨?_,frozen_cl hb _⟩
    have h5:(L.drop off)[j]? =some (.int .i64 zs[j]):=by
      have h6:=congrArg (λ l:List Value=>l[j]?) h4
      simp only [List.getElem?_take] at h6
      rw [if_pos oqz] at h6
      rw [h6];exact ints_at hj'
    rw [List.getElem?_drop] at h5
    simp [World.cell?,hb,cl,h5,hj']
  refine (Go.Proofs.AnyM.slices_Sort_int Go.Proofs.Tryz.sortA b off c zs w hH hblk hl).mono ?_;rintro e w' ⟨rfl,n,os,rfl⟩;have hml:(zs.mergeSort λ x y=>decide (x<=y)).length=zs.length:=List.length_mergeSort _;have hil:(ints (zs.mergeSort λ x y=>decide (x<=y))).length=zs.length:=(by rw [ints_length,hml]);refine ⟨_,_,rfl,⟨rfl,rfl⟩, ?_⟩;rw [hC]
  have hup:Upd (R*pt b (cl L E)) b (cl L E) (cl (putL off (ints (zs.mergeSort λ x y=>decide (x<=y))) L) E) (R*pt b (cl (putL off (ints (zs.mergeSort λ x y=>decide (x<=y))) L) E)):=upd_here
  have hobj:(Go.Sort.putRow (Value.int .i64) (Go.Sort.ahead w n) b off (zs.mergeSort λ x y=>decide (x<=y)).toArray).heap=w.heap.setIfInBounds b (cl (putL off (ints (zs.mergeSort λ x y=>decide (x<=y))) L) E):=by
    unfold Go.Sort.putRow Go.Sort.mapBlock
    show w.heap.modify b _=_
    apply Array.ext_getElem?
    intro k;rw [Array.getElem?_modify,Array.getElem?_setIfInBounds]
    by_cases hk:b=k
    . subst hk;rw [if_pos rfl,if_pos rfl,hb,if_pos hblk]
      simp only [Option.map_some,Option.some.injEq,cl,Go.Sort.onCells,Obj.cells.injEq,and_true]
      apply Array.ext'
      unfold Go.Sort.putCells putL
      simp only [Array.toList_mapIdx,List.size_toArray,hil,hml]
      apply List.ext_getElem?
      intro j
      simp only [List.getElem?_mapIdx]
      cases hj:L[j]? with
      |none=>rfl
      |some x=>
        simp only [Option.map_some,Option.some.injEq]
        split
        . rename_i hjj
          have h7:j-off<(zs.mergeSort λ x y=>decide (x<=y)).length:=(by omega);rw [List.getD_eq_getElem?_getD,ints_at h7]
          simp only [List.getElem!_toArray,Option.getD_some]
          rw [getElem!_pos (zs.mergeSort λ x y=>decide (x<=y)) (j-off) h7]
        rfl
    rw [if_neg hk,if_neg hk]
  have hs1:sat g (Go.Sort.putRow (Value.int .i64) (Go.Sort.ahead w n) b off (zs.mergeSort λ x y=>decide (x<=y)).toArray) (R*pt b (cl (putL off (ints (zs.mergeSort λ x y=>decide (x<=y))) L) E)):=
    hup.sat hs' (λ k=>by rw [hobj];exact set_heap hb k) rfl rfl rfl
  have hs2:sat g (Go.Sort.grow (Go.Sort.putRow (Value.int .i64) (Go.Sort.ahead w n) b off (zs.mergeSort λ x y=>decide (x<=y)).toArray) os) (R*pt b (cl (putL off (ints (zs.mergeSort λ x y=>decide (x<=y))) L) E)):=
    sat_ext hs1 (λ k o hk=>by
      have hlt:k<(Go.Sort.putRow (Value.int .i64) (Go.Sort.ahead w n) b off (zs.mergeSort λ x y=>decide (x<=y)).toArray).heap.size:=by
        rcases Nat.lt_or_ge k (Go.Sort.putRow (Value.int .i64) (Go.Sort.ahead w n) b off (zs.mergeSort λ x y=>decide (x<=y)).toArray).heap.size with h|h
        . exact h
        rw [Array.getElem?_eq_none h] at hk;cases hk
      show (_++os)[k]? =_
      rw [Array.getElem?_append_left hlt];exact hk) rfl rfl rfl
  refine sl_iff.2 ⟨by rw [hil];omega,.inr ⟨b,off,c,_,E,rfl,h2,by rw [putL_len];exact h3, ?_,hs2⟩⟩;have h8:=putL_sub (off:=off) (ys:=ints (zs.mergeSort λ x y=>decide (x<=y))) (L:=L) (by rw [hil];exact hsz);rw [hil] at h8;rw [Nat.mul_one];exact h8
def mit (b since:Nat)(seen:List Nat)(c:Nat):Obj:= .mapIter (some b) since seen.toArray c
def nxV (ik:IntKind)(o:Option ME):Value:=match o with
  |none=> .tuple #[.bool false]
  |some e=> .tuple #[.bool true,.int ik e.k,e.v]
def nxI (b c:Nat)(seen:List Nat)(o:Option ME):Obj:=match o with
  |none=>mit b c seen c
  |some e=>mit b c (seen++[e.b]) c
structure NxP (M:MS) (seen:List Nat) (o:Option ME):Prop where
  no:o=none->∀e∈M.D,e.b∈seen
  yes:∀e,o=some e->e∈M.D/\ e.b∉seen
theorem er_map {α β:Type}(f:α->β):∀ (l:List α) (i:Nat),(l.map f).eraseIdx i=(l.eraseIdx i).map f
  |[],_=>rfl
  |_::_,0=>rfl
  |x::l,i+1=>congrArg (f x::·) (er_map f l i)
section
variable {P:Program} {n:Nat} {ρ:Env} {A R:SP} {C:SP->SP} {dst:Option Tmp} {ty:TypeId} {pos:String} {after:Array Edge} {gd:Option (Nat×Bool)} {ik:IntKind} {kt et t:TypeId} {x y:Operand} {b r:Nat} {M M':MS} {a:Int} {A':SP} {z:Value} {seen:List Nat}
theorem o_range (hu:P.underlying t=some (.map kt et))(hx:ev n ρ x= .map (some b))(hh:Has A b (mpo ik M)):
    OpX P n ρ A ⟨dst,.range t x,ty,pos,after,gd⟩ (λ v B=>∃r,v=(pz r)/\ B=A*pt r (mit b M.c [] M.c)):=λ g w hs=>by
  have h:=hh g w hs;refine ⟨_,w.alloc (mit b M.c [] M.c),_, ?_,hs.alloc _,w.heap.size,rfl,rfl⟩
  simp only [execOp,hx]
  rw [run_bind (a:= .pointer (some ⟨w.heap.size,0,none⟩)) (w':=w.alloc (mit b M.c [] M.c))]
  . rfl
  unfold Instr.range
  rw [run_bind (run_und hu)]
  simp only []
  rw [run_bind (run_getMap h)]
  simp only [mpo]
  rfl
theorem o_next (hw:WfM M)(hx:ev n ρ x=(pz r))(hc:Ct A (pt r (mit b M.c seen M.c)) R C)(hm:Has R b (mpo ik M)):
    OpX P n ρ A ⟨dst,.next x false,ty,pos,after,gd⟩ (λ v B=>∃o:Option ME,NxP M seen o/\ v=nxV ik o/\ B=C (pt r (nxI b M.c seen o))):=λ g w hs=>by
  obtain ⟨rfl,hC⟩:=hc;have hr:w.heap[r]? =some (.mapIter (some b) M.c seen.toArray M.c):=has_here g w hs;have hb:w.heap[b]? =some (.map (M.D.map (ment ik)).toArray M.c):=(has_left hm) g w hs
  have hold:∀x∈(M.D.map (ment ik)).toArray.toList,x.born<M.c:=λ x hx=>by
    obtain ⟨e,he,rfl⟩:=List.mem_map.1 (by simpa using hx);exact hw.past e he
  have hmem:∀e:MapEntry,e∈(leftOf (M.D.map (ment ik)).toArray seen.toArray).toList↔∃e0∈M.D,ment ik e0=e/\ e0.b∉seen:=λ e=>by
    unfold leftOf
    simp only [List.filter_toArray,List.mem_filter,List.mem_map,Bool.not_eq_true',Array.contains_eq_mem,decide_eq_false_iff_not,List.mem_toArray]
    constructor
    . rintro ⟨⟨e0,h0,rfl⟩,h1⟩;exact ⟨e0,h0,rfl,h1⟩
    rintro ⟨e0,h0,rfl,h1⟩;exact ⟨⟨e0,h0,rfl⟩,h1⟩
  rcases run_next_at (P:=P) w ty r b M.c M.c seen.toArray _ M.c hr hb hold (Nat.le_refl _) with ⟨h0,hrun⟩|⟨e,he,w1,hw1,hrun⟩
  . refine ⟨nxV ik none,w,C (pt r (nxI b M.c seen none)), ?_,by rw [hC];exact hs,none,⟨λ _ e he=> ?_,λ _ h=>(by cases h)⟩,rfl,rfl⟩
    . simp only [execOp,hx]
      rw [run_bind (a:= .tuple #[.bool false]) (w':=w) hrun];rfl
    rcases Classical.em (e.b∈seen) with h1|h1
    . exact h1
    have h2:=(hmem (ment ik e)).2 ⟨e,he,rfl,h1⟩;have h3:(leftOf (M.D.map (ment ik)).toArray seen.toArray).toList.length=0:=(by rw [Array.length_toList];exact h0);rw [List.eq_nil_of_length_eq_zero h3] at h2;cases h2
  obtain ⟨e0,h1,rfl,h2⟩:=(hmem e).1 he;have hs1:sat g w1 (R*pt r (mit b M.c seen M.c)):=(by rcases hw1 with rfl|rfl;exact hs;exact hs.draw rfl rfl rfl rfl);have hr1:w1.heap[r]? =some (mit b M.c seen M.c):=has_here g w1 hs1
  have e2:(Obj.mapIter (some b) M.c (seen.toArray.push (ment ik e0).born) M.c)=nxI b M.c seen (some e0):=by
    show _=mit b M.c (seen++[e0.b]) M.c
    unfold mit;rw [List.push_toArray];rfl
  rw [e2] at hrun
  refine ⟨nxV ik (some e0),Go.ChangeMaps.setBlock w1 r (nxI b M.c seen (some e0)),C (pt r (nxI b M.c seen (some e0))), ?_, ?_,some e0,⟨λ h=>(by cases h),λ e h=>(by cases h;exact ⟨h1,h2⟩)⟩,rfl,rfl⟩
  . simp only [execOp,hx]
    rw [run_bind (a:=nxV ik (some e0)) (w':=Go.ChangeMaps.setBlock w1 r (nxI b M.c seen (some e0))) hrun];rfl
  rw [hC]
  exact (upd_here (o':=nxI b M.c seen (some e0))).sat hs1 (set_heap hr1) rfl rfl rfl
theorem o_exNx {o:Option ME}(hx:ev n ρ x=nxV ik o):OpV P n ρ A ⟨dst,.extract x 0,ty,pos,after,gd⟩ (.bool o.isSome):=by
  cases o with
  |none=>exact o_extract hx rfl
  |some e=>exact o_extract hx rfl
theorem o_entry {e:ME}(hw:WfM M)(he:e∈M.D)(hx:ev n ρ x=(pz r))(hr:Has A r (mit b M.c (seen++[e.b]) M.c))(hm:Has A b (mpo ik M)):
    OpV P n ρ A ⟨dst,.entry x,ty,pos,after,gd⟩ (.tuple #[.int ik e.k,e.v]):=λ g w hs=>by
  have h1:w.heap[r]? =some (.mapIter (some b) M.c (seen.toArray.push (ment ik e).born) M.c):=by
    have:=hr g w hs
    unfold mit at this;rw [this,List.push_toArray];rfl
  have h2:w.heap[b]? =some (.map (M.D.map (ment ik)).toArray M.c):=hm g w hs
  simp only [execOp,hx]
  rw [run_bind (a:= .tuple #[.int ik e.k,e.v]) (w':=w)]
  . rfl
  exact run_entry_at w r b M.c seen.toArray _ M.c (ment ik e) h1 h2 (by simpa using ⟨e,he,rfl⟩) (by simpa [ment,Function.comp_def] using hw.born)
theorem o_delete (hu:P.underlying t=some (.map kt et))(hk:P.underlying kt=some (.int ik)){t':TypeId}(hx:ev n ρ x= .map (some b))(hy:ev n ρ y= .int ik a)(hup:Upd A b (mpo ik M) (mpo ik M') A')(he:M.del a=M'):
    OpX P n ρ A ⟨dst,.call { callee:= .builtin .delete,args:= #[x,y],argTypes:= #[t,t'] },ty,pos,after,gd⟩ (λ v B=>v= .tuple #[]/\ B=A'):=λ g w hs=>by
  have h:=hup.has g w hs;refine ⟨.tuple #[],{ w with heap:=w.heap.setIfInBounds b (mpo ik M') },A', ?_,hup.sat hs (set_heap h) rfl rfl rfl,rfl,rfl⟩
  simp only [execOp,resolve,List.map_toArray,List.map_cons,List.map_nil,hx,hy]
  rw [run_bind (w':=w) (a:=⟨.builtin .delete #[t,t'] ty _,#[.map (some b),.int ik a]⟩) (by rfl)]
  simp only [invoke,builtin]
  rw [run_bind (w':={ w with heap:=w.heap.setIfInBounds b (mpo ik M') }) (a:= .tuple #[])]
  . rfl
  unfold Builtin.delete_
  simp only [List.getElem?_toArray,List.getElem?_cons_zero,List.getElem?_cons_succ]
  rw [run_bind (run_und hu)]
  simp only []
  rw [run_bind (run_getMap h)]
  simp only [mpo]
  rw [run_bind (run_checkKey hk),run_bind (run_findKey hk)]
  subst he
  unfold MS.del
  cases hf:mfind M.D a 0 with
  |none=>simp only [];rw [run_bind (run_setMap h)];rfl
  |some p=>
    obtain ⟨i,u0⟩:=p;obtain ⟨hi,h1,_⟩:=mfind_some hf
    simp only []
    have e:(M.D.map (ment ik)).toArray.eraseIdxIfInBounds i=((M.D.eraseIdx i).map (ment ik)).toArray:=by
      unfold Array.eraseIdxIfInBounds
      rw [dif_pos (by simpa using hi)]
      apply Array.ext'
      simp [er_map]
    rw [e,run_bind (run_setMap h)];rfl
theorem o_clearM (hu:P.underlying t=some (.map kt et))(hx:ev n ρ x= .map (some b))(hup:Upd A b (mpo ik M) (mpo ik M.clr) A'):
    OpX P n ρ A ⟨dst,.call { callee:= .builtin .clear,args:= #[x],argTypes:= #[t] },ty,pos,after,gd⟩ (λ v B=>v= .tuple #[]/\ B=A'):=λ g w hs=>by
  have h:=hup.has g w hs;refine ⟨.tuple #[],{ w with heap:=w.heap.setIfInBounds b (mpo ik M.clr) },A', ?_,hup.sat hs (set_heap h) rfl rfl rfl,rfl,rfl⟩
  simp only [execOp,resolve,List.map_toArray,List.map_cons,List.map_nil,hx]
  rw [run_bind (w':=w) (a:=⟨.builtin .clear #[t] ty _,#[.map (some b)]⟩) (by rfl)]
  simp only [invoke,builtin]
  rw [run_bind (w':={ w with heap:=w.heap.setIfInBounds b (mpo ik M.clr) }) (a:= .tuple #[])]
  . rfl
  unfold Builtin.clear_
  simp only [List.getElem?_toArray,List.getElem?_cons_zero]
  rw [run_bind (run_und hu),run_bind (run_getMap h)]
  simp only [mpo]
  rw [run_bind (run_setMap h)];rfl
end
structure Vis (M:MS) (vis:List ME):Prop where
  sub:∀e∈vis,e∈M.D
  nd:(vis.map ME.b).Nodup
theorem vis_nil (M:MS):Vis M []:=⟨λ e h=>(by cases h),(by simp)⟩
theorem vis_snoc {M:MS}{vis:List ME}{e:ME}(h:Vis M vis)(h1:NxP M (vis.map ME.b) (some e)):Vis M (vis++[e]):=by
  obtain ⟨he,hn⟩:=h1.yes e rfl;refine ⟨λ x hx=> ?_, ?_⟩
  . rcases List.mem_append.1 hx with hx|hx
    . exact h.sub x hx
    rw [List.mem_singleton.1 hx];exact he
  rw [List.map_append]
  refine List.nodup_append.2 ⟨h.nd,by simp,λ a ha b hb=> ?_⟩
  simp only [List.map_cons,List.map_nil,List.mem_singleton] at hb
  subst hb;exact λ h=>hn (h▸ha)
theorem nodup_of_map {α β:Type}{f:α->β}{l:List α}(h:(l.map f).Nodup):l.Nodup:=List.Pairwise.of_map f (λ a b hab e=>hab (by rw [e])) h
theorem vis_len {M:MS}{vis:List ME}(h:Vis M vis):vis.length<=M.D.length:=List.Nodup.length_le_of_subset (nodup_of_map h.nd) h.sub
theorem vis_perm {M:MS}{vis:List ME}(hw:WfM M)(h:Vis M vis)(h1:NxP M (vis.map ME.b) none):vis.Perm M.D:=by
  refine (List.perm_ext_iff_of_nodup (nodup_of_map h.nd) (nodup_of_map hw.born)).2 λ e=>⟨h.sub e,λ he=> ?_⟩
  obtain ⟨e',h2,h3⟩:=List.mem_map.1 (h1.no rfl e he)
  have hin:∀{l:List ME},(l.map ME.b).Nodup->∀x∈l,∀y∈l,x.b=y.b->x=y:=by
    intro l
    induction l with
    |nil=>intro _ x hx;cases hx
    |cons u l ih=>
      intro hn x hx y hy e
      simp only [List.map_cons,List.nodup_cons] at hn
      rcases List.mem_cons.1 hx with h1|h1
      . rcases List.mem_cons.1 hy with h2|h2
        . rw [h1,h2]
        exact absurd (List.mem_map_of_mem (f:=ME.b) h2) (by rw [←e,h1];exact hn.1)
      rcases List.mem_cons.1 hy with h2|h2
      . exact absurd (List.mem_map_of_mem (f:=ME.b) h1) (by rw [e,h2];exact hn.1)
      exact ih hn.2 x h1 y h2 e
  rw [←hin hw.born e' (h.sub e' h2) e he h3];exact h2
open Go.RowKit Go.Maps Go.Sort Go.Shelf Go.Proofs in
theorem Keys_c {A:SP}{b:Nat}:Fn Tryz.prog 203 #[.map (some b)] A (λ v B=>∃k,v= .func (.func 261) #[] #[pz k]/\ B=A*pt k (cl [.map (some b)] (Go.Proofs.Tryz.keysA_ren.t 23))):=by
  intro g w hs;refine (callsIn_wide (n:=6)).1 ((AnyZI.keys_in Go.Proofs.Tryz.keysA Fence.wide 6 trivial rfl (some b) w).mono ?_);rintro e w' ⟨rfl,rfl⟩;exact ⟨_,_,rfl,⟨w.heap.size,rfl,rfl⟩,hs.alloc _⟩
def rdK:Value->Option (DataW Unit×List MemPlace):=λ _=>some (.lit (.bool true),[])
theorem key_lit {k:Int}(hk: -9223372036854775808<=k/\ k<=9223372036854775807):keyOf Tryz.prog (Go.Proofs.Tryz.keysA_ren.t 26) (.int .i64 k)=some (.int .i64 k):=by
  have hu:Tryz.prog.underlying (Go.Proofs.Tryz.keysA_ren.t 26)=some (.int .i64):=(by kernel_rfl);have hwf:(Lit.int .i64 k).wf=true:=Go.WalkArith.wf_i64 hk
  unfold keyOf
  rw [hu]
  simp only [mapKey,hu]
  rw [if_pos ⟨trivial,hwf⟩]
theorem ment_rd {e:ME}(hk: -9223372036854775808<=e.k/\ e.k<=9223372036854775807):Go.WideElems.rd Tryz.prog (Go.Proofs.Tryz.keysA_ren.t 26) rdK (ment .i64 e)=some (.int .i64 e.k,.lit (.bool true)):=by
  unfold Go.WideElems.rd ment
  simp only []
  rw [key_lit hk];rfl
theorem ins_perm {H:Type}(x:Lit×DataW H):∀l:List (Lit×DataW H),(DataW.insert x l).Perm (x::l)
  |[]=>List.Perm.refl _
  |y::r=>by
    unfold DataW.insert
    split
    . exact List.Perm.refl _
    exact ((ins_perm x r).cons y).trans (List.Perm.swap x y r)
theorem fold_perm {H:Type}:∀l:List (Lit×DataW H),(l.foldr DataW.insert []).Perm l
  |[]=>List.Perm.refl _
  |x::l=>(ins_perm x _).trans ((fold_perm l).cons x)
theorem owns_mpo {w:World}{b:Nat}{M:MS}(hb:w.heap[b]? =some (mpo .i64 M))(hw:WfM M)(hk:∀e∈M.D,-9223372036854775808<=e.k/\ e.k<=9223372036854775807)(hl:M.D.length<=4194304):
    ∃D0:DataW Unit,w.ownsMap Tryz.prog (Go.Proofs.Tryz.keysA_ren.t 26) rdK b M.D.length D0/\ (Go.intKeys D0).Perm (M.D.map ME.k)/\ Go.Maps.size D0=M.D.length:=by
  have hmap:∀D:List ME,(∀e∈D,-9223372036854775808<=e.k/\ e.k<=9223372036854775807)->(D.map (ment .i64)).map (Go.WideElems.rg Tryz.prog (Go.Proofs.Tryz.keysA_ren.t 26) rdK)=D.map λ e=>(Lit.int .i64 e.k,(DataW.lit (.bool true):DataW Unit)):=λ D h=>by
    rw [List.map_map]
    refine List.map_congr_left λ e he=> ?_
    have h9:=Go.WideElems.rg_of (ment_rd (h e he));rw [Function.comp_apply,h9]
  refine ⟨.map ((M.D.map λ e=>(Lit.int .i64 e.k,DataW.lit (.bool true))).foldr DataW.insert []),⟨(M.D.map (ment .i64)).toArray,M.c,hb,⟨?_,⟨?_, ?_, ?_⟩, ?_⟩, ?_, ?_⟩, ?_, ?_⟩
  . simp only [List.size_toArray,List.length_map];exact Nat.le_trans hl (by decide)
  . intro x hx;obtain ⟨e,he,rfl⟩:=List.mem_map.1 (by simpa using hx);exact hw.past e he
  . simp only [List.map_map];exact hw.born
  . simp only [List.map_map]
    have:=hw.keys;rw [show ((λ x=>x.key) ∘ ment .i64:ME->Value)=(λ k=>Value.int .i64 k) ∘ ME.k from rfl,←List.map_map]
    exact List.Pairwise.map _ (λ a b hab e=>hab (by simpa using e)) this
  . intro x hx;obtain ⟨e,he,rfl⟩:=List.mem_map.1 (by simpa using hx);exact ⟨_,ment_rd (hk e he)⟩
  . simp
  . rw [hmap M.D hk]
  . unfold Go.intKeys
    have:=((fold_perm (M.D.map λ e=>(Lit.int .i64 e.k,(DataW.lit (.bool true):DataW Unit)))).map (λ p=>Go.intOf p.1));refine this.trans ?_;rw [List.map_map]
    exact List.Perm.refl _
  have:=(fold_perm (M.D.map λ e=>(Lit.int .i64 e.k,(DataW.lit (.bool true):DataW Unit)))).length_eq
  simpa [Go.Maps.size] using this
theorem sat_below {g:Gh}{w w':World}{A:SP}(h:sat g w A)(hb:Go.RowKit.Below w.heap.size w w'):sat g w' A:=
  sat_ext h (λ k o hk=>by
    have:k<w.heap.size:=by
      rcases Nat.lt_or_ge k w.heap.size with h1|h1
      . exact h1
      rw [Array.getElem?_eq_none h1] at hk;cases hk
    rw [hb.block k this];exact hk) hb.os hb.tape hb.output
theorem sat_more {g:Gh}{w w':World}{A:SP}{b:Nat}{o:Obj}(h:sat g w A)(hb:Go.RowKit.Below w.heap.size w w')(h1:w.heap.size<=b)(h2:w'.heap[b]? =some o):sat g w' (A*pt b o):=by
  have hs:=sat_below h hb;refine ⟨hs.os,hs.tape,hs.out, ?_⟩;obtain ⟨x,ha,hx⟩:=h.hp
  have hn:x b=none:=by
    cases hxk:x b with
    |none=>rfl
    |some v=>have:=hx b v.1 v.2 hxk;rw [Array.getElem?_eq_none h1] at this;cases this
  refine ⟨x.un λ k=>if k=b then some (o,false) else none,⟨x,_,λ k=> ?_,rfl,ha,rfl⟩,λ k v f hv=> ?_⟩
  . by_cases hk:k=b
    . subst hk;exact .inl hn
    right;left;simp [hk]
  by_cases hk:k=b
  . subst hk
    simp [Hp.un,hn] at hv
    rw [←hv.1];exact h2
  have hv':x k=some (v,f):=by
    cases hxk:x k with
    |none=>simp [Hp.un,hxk,hk] at hv
    |some u=>simp [Hp.un,hxk] at hv;rw [hv]
  have h3:=hx k v f hv'
  have:k<w.heap.size:=by
    rcases Nat.lt_or_ge k w.heap.size with h4|h4
    . exact h4
    rw [Array.getElem?_eq_none h4] at h3;cases h3
  rw [hb.block k this];exact h3
open Go.RowKit Go.Maps Go.Sort Go.Shelf Go.Proofs in
theorem Sorted_c {A:SP}{b k:Nat}{M:MS}(hm:Has A b (mpo .i64 M))(hk:Has A k (cl [.map (some b)] (Go.Proofs.Tryz.keysA_ren.t 23)))(hw:WfM M)(hb:∀e∈M.D,-9223372036854775808<=e.k/\ e.k<=9223372036854775807)(hl:M.D.length<=4194304):
    Fn Tryz.prog 202 #[.func (.func 261) #[] #[pz k]] A (λ v B=>∃a c,v= .slice a M.D.length c/\ M.D.length<=c/\ B=A*Sl 1 (.slice a M.D.length c) M.D.length (ints ((M.D.map ME.k).mergeSort λ x y=>decide (x<=y)))):=by
  intro g w hs;obtain ⟨D0,hown,hperm,hsize⟩:=owns_mpo (hm g w hs) hw hb hl;have hkb:=hk g w hs
  have hks:k<w.heap.size:=by
    rcases Nat.lt_or_ge k w.heap.size with h|h
    . exact h
    rw [Array.getElem?_eq_none h] at hkb;cases hkb
  have hsorts:AnyZI.SortsIn Tryz.prog Go.Proofs.Tryz.sortedA_ren Fence.wide 5:=
    ⟨λ blk off cap ss W hH hblk hsz=>callsIn_wide.2 (AnyM.slices_Sort_int Go.Proofs.Tryz.sortA blk off cap ss W hH hblk hsz),
     λ p cap W=>callsIn_wide.2 (AnyM.slices_Sort_int_none Go.Proofs.Tryz.sortA p cap W)⟩
  have hseq:SeqGives Fence.wide 3 Tryz.prog 261 #[pz k] encZ (λ ss=>ss.Perm (intKeys D0)) (Maps.size D0) w:=
    AnyZI.keys_gives (ρ:=Go.Proofs.Tryz.keysA_ren) { Go.Proofs.Tryz.keysA with } Fence.wide _ trivial rfl oqz k b M.D.length D0 w hks (by simp [World.cell?,hkb,cl]) hown
  have cS:=AnyZI.sorted_in Go.Proofs.Tryz.sortedA Fence.wide 6 trivial trivial trivial trivial rfl oqz hsorts (enters_of Go.Proofs.Tryz.func260 kqz rfl) 261 #[pz k] trivial (enters_of Go.Proofs.Tryz.func261 kqz rfl) _ _ (by rw [hsize];exact Nat.le_trans hl (by decide)) (by rw [hsize];omega) w hseq;refine (callsIn_wide (n:=6)).1 (cS.mono ?_);rintro e w' ⟨v,ss,rfl,hS,hrow,hnil,hbl⟩;have hlen:ss.length=M.D.length:=(by rw [(hS.trans hperm).length_eq,List.length_map]);have hms:(ss.mergeSort λ x y=>decide (x<=y))=(M.D.map ME.k).mergeSort λ x y=>decide (x<=y):=mergeSort_of_perm_i (hS.trans hperm)
  rw [hlen,hms] at hrow
  have he:∀zs:List Int,zs.map encZ=ints zs:=λ zs=>rfl
  rw [he] at hrow
  rcases hrow.2 with ⟨rfl,hz⟩|⟨gb,cap,cur,rfl,hbase,hgb,r1,r2,r3,r4⟩
  . refine ⟨_,_,rfl,⟨none,0,by rw [hz],by omega,rfl⟩, ?_⟩;have:(M.D.map ME.k)=[]:=List.eq_nil_of_length_eq_zero (by rw [List.length_map];exact hz);rw [this,List.mergeSort_nil,hz]
    exact sl_nil (sat_below hs hbl)
  refine ⟨_,_,rfl,⟨some ⟨gb,0,none⟩,cap,rfl,r1,rfl⟩, ?_⟩;refine sl_new (l:=cur.toList) (E:=Go.Proofs.Tryz.sortedA_ren.t 26) ?_ r1 (by rw [Array.length_toList];omega) (by simpa using r4);exact sat_more hs hbl hbase (by rw [hgb];rfl)
end Go.Vl

namespace Go.Vl
open Go Go.Proofs Go.Proofs.Tryz
def intF (P : Program) (f : Field) : Bool := f.name != "_" && plainE P f.type && (match P.underlying f.type with | some (.int _) => true | _ => false)
def flatI (P:Program)(fs:Array Field)(n:Nat):Bool:=((fs.toList.map λ f=>f.offset)==List.range n)&&fs.toList.all (intF P)
section
variable {P:Program} {n:Nat} {ρ:Env} {A:SP} {dst:Option Tmp} {ty:TypeId} {pos:String} {after:Array Edge} {gd:Option (Nat×Bool)}
theorem o_eqstr {t t':TypeId}{x y:Operand}{a b:ByteArray}(hx:ev n ρ x= .string a)(hy:ev n ρ y= .string b):
    OpV P n ρ A ⟨dst,.binOp .eql t x y t',ty,pos,after,gd⟩ (.bool (a.toList==b.toList)):=
  opv_of λ w=>by
  simp only [execOp,hx,hy]
  rw [run_bind (w':=w) (a:= .bool (a.toList==b.toList))]
  . rfl
  rw [run_bind (w':=w) (a:=())]
  . simp [binOp,Op.stringOp,pure]
  rfl
theorem o_compl32 {t:TypeId}{x:Operand}{a:Nat}(hx:ev n ρ x= .int .u32 (a:Nat))(ha:a<4294967296):OpV P n ρ A ⟨dst,.unOp .xor t x,ty,pos,after,gd⟩ (.int .u32 ((a^^^4294967295:Nat):Int)):=(o_compl hx).cast (by
  have h1:(BitVec.ofInt IntKind.u32.bits (if IntKind.u32.signed then-1 else IntKind.u32.max)).toNat=4294967295:=(by decide)
  rw [BitVec.toNat_xor,h1,bv_of .u32 a (by simpa [IntKind.bits] using ha),Nat.xor_comm,wrap_fit .u32 rfl _ (Nat.xor_lt_two_pow (by simpa [IntKind.bits] using ha) (by decide))])
theorem o_neg32 {t:TypeId}{x:Operand}{a:Nat}(hx:ev n ρ x= .int .u32 (a:Nat))(ha:a<2):OpV P n ρ A ⟨dst,.unOp .neg t x,ty,pos,after,gd⟩ (.int .u32 ((a*4294967295:Nat):Int)):=(o_neg hx).cast (by
  have:a=0∨a=1:=(by omega)
  rcases this with rfl|rfl<;>rfl)
theorem o_cpyS {t e:TypeId}{x:Operand}{b m c:Nat}{l:List Value}{E:TypeId}{A':SP}(hu:P.underlying t=some (.slice e))(he:P.underlying e=some (.int .u8))(hx:ev n ρ x= .slice (some ⟨b,0,none⟩) m c)
    (hd:Upd A b (cl l E) (.cells l.toArray E (l.length,l.length+1)) A'):OpX P n ρ A ⟨dst,.convert t t x,ty,pos,after,gd⟩ (λ v B=>v= .slice (some ⟨b,0,none⟩) m c/\ B=A'):=λ g w hs=>by
  have h:=hd.has g w hs;refine ⟨_,w.freeze ⟨b,l.length,none⟩ 1,A', ?_,hd.sat hs (λ k=> ?_) rfl rfl rfl,rfl,rfl⟩
  . simp only [execOp,hx,convert]
    rw [run_bind (a:= .slice (some ⟨b,0,none⟩) m c) (w':=w.freeze ⟨b,l.length,none⟩ 1)]
    . rfl
    rw [run_bind (run_und hu),run_bind (run_und hu)]
    simp only []
    rw [run_bind (run_und he)]
    have hsh:w.shape? b=some (E,l.length):=(by unfold World.shape?;rw [h];simp [cl])
    simp [markStringish,shape,freeze,Sem.run,bind,Sem.bind,hsh,pure]
  show (World.freeze w ⟨b,l.length,none⟩ 1).heap[k]? =_
  unfold World.freeze
  rw [if_neg (by decide)]
  show (w.heap.modify b _)[k]? =_
  rw [Array.getElem?_modify]
  by_cases hk:b=k
  . subst hk;rw [if_pos rfl,if_pos rfl,h];simp [cl]
  rw [if_neg hk,if_neg (Ne.symm hk)]
end
theorem rs_mk {R:SP}{b:Nat}{l:List Value}{E:TypeId}{fz:Nat×Nat}:Rs (R*pt b (.cells l.toArray E fz)) (some ⟨b,0,none⟩) l:=λ g w hs i v hv=>by
  have h:=has_here g w hs;refine ⟨b,0,rfl, ?_⟩
  simp only [World.cell?,h,Nat.zero_add,List.getElem?_toArray]
  simpa using hv
def sob (xs:List Nat):ByteArray:=⟨(xs.map λ n=>UInt8.ofNat n).toArray⟩
theorem o_b2s {P:Program}{n:Nat}{ρ:Env}{A:SP}{dst:Option Tmp}{ty:TypeId}{pos:String}{after:Array Edge}{gd:Option (Nat×Bool)}{s t e:TypeId}{x:Operand}{a:Option Addr}{m c:Nat}{xs:List Nat}(hs:P.underlying s=some (.slice e))(he:P.underlying e=some (.int .u8))(ht:P.underlying t=some .string)
    (hx:ev n ρ x= .slice a m c) (hr:Rs A a (bys xs)) (hm:xs.length=m) (h0:0<m):OpV P n ρ A ⟨dst,.convert s t x,ty,pos,after,gd⟩ (.string (sob xs)):=λ g w hsat=>by
  have h00:(bys xs)[0]? =some ((bys xs)[0]'(by rw [bys_length];omega)):=List.getElem?_eq_getElem _;obtain ⟨b,o,rfl,_⟩:=hr g w hsat 0 _ h00
  simp only [execOp,hx]
  rw [run_bind (w':=w) (a:= .string (sob xs))]
  . rfl
  rw [run_convert_bytes_arg w s e hs he b o m c (xs.map λ (q:Nat)=>(q:Int)) (by simp [hm]) (λ i hi=> ?_) t ht]
  . simp [strOfNums,sob,List.map_map,Function.comp_def]
  have hi':i<xs.length:=(by omega);have h1:=bys_at hi';obtain ⟨b',o',e',hc⟩:=hr g w hsat i _ h1
  simp only [Option.some.injEq,Addr.mk.injEq,and_true] at e'
  obtain ⟨rfl,rfl⟩:=e';rw [hc]
  simp [hi']
theorem sq1z {p:Prop}(h:p:=by repeat (first|exact nn_some|with_reducible exact nn_sl (by decide)|exact nn_rs (by assumption) (λ _=>by first|omega|(simp only [bys_length,ints_length,wds_length,bos_length,List.length_append,List.length_take,List.length_drop,List.length_singleton];omega))|apply Nn.left)):p:=h
theorem sq2z {p:Prop}(h:p:=by first|omega|(simp only [bys_length,ints_length,wds_length,bos_length,List.length_append,List.length_take,List.length_drop,List.length_singleton];omega)):p:=h
def crs (r:Nat):Nat:=(r/2)^^^(2197175160*(r%2))
def crk:Nat->Nat->Nat
  |0,r=>r
  |k+1,r=>crs (crk k r)
def crL (r:Nat):List Nat->Nat
  |[]=>r
  |x::xs=>crL (crk 8 (r^^^x)) xs
def crc (s:Nat)(xs:List Nat):Nat:=crL (s^^^4294967295) xs^^^4294967295
theorem x32 {a b:Nat}(ha:a<4294967296)(hb:b<4294967296):a^^^b<4294967296:=Nat.xor_lt_two_pow (n:=32) ha hb
theorem crs_lt {r:Nat}(h:r<4294967296):crs r<4294967296:=x32 oqz oqz
theorem crk_lt {r:Nat}(h:r<4294967296):∀k,crk k r<4294967296
  |0=>h
  |k+1=>crs_lt (crk_lt h k)
theorem crL_lt:∀{xs:List Nat} {r:Nat},r<4294967296->(∀x∈xs,x<256)->crL r xs<4294967296
  |[],_,h,_=>h
  |x::xs,r,h,hb=>crL_lt (xs:=xs) (crk_lt (x32 h (by have:=hb x (by simp);omega)) 8) λ y hy=>hb y (by simp [hy])
theorem crL_snoc:∀{xs:List Nat} {r x:Nat},crL r (xs++[x])=crk 8 (crL r xs^^^x)
  |[],_,_=>rfl
  |y::ys,r,x=>by show crL _ (ys++[x])=_;rw [crL_snoc];rfl
theorem crL_take {xs:List Nat}{r i:Nat}(h:i<xs.length):crL r (xs.take (i+1))=crk 8 (crL r (xs.take i)^^^xs[i]):=by
  rw [List.take_succ_eq_append_getElem h,crL_snoc]
theorem crc_lt {s:Nat}{xs:List Nat}(h:s<4294967296)(hb:∀x∈xs,x<256):crc s xs<4294967296:=x32 (crL_lt (x32 h (by decide)) hb) (by decide)
theorem tk_b {xs:List Nat}{i:Nat}(hb:∀x∈xs,x<256):∀x∈xs.take i,x<256:=λ x hx=>hb x (List.mem_of_mem_take hx)
theorem and1 (r:Nat):r&&&1=r%2:=Nat.and_one_is_mod r
theorem crs_and (r:Nat):(r/2)^^^(2197175160&&&(r%2*4294967295))=crs r:=by
  unfold crs
  have:r%2=0∨r%2=1:=(by omega)
  rcases this with h|h<;>rw [h]<;>rfl
theorem crk_and (k c:Nat):(crk k c/2^1)^^^(2197175160&&&(crk k c%2*4294967295))=crk (k+1) c:=crs_and _
theorem crk_0 (c:Nat):c=crk 0 c:=rfl
theorem crL_0 (c:Nat)(xs:List Nat):c=crL c (xs.take 0):=by rw [List.take_zero];rfl
theorem crc_of (s:Nat)(xs:List Nat){m:Nat}(h:xs.length=m):crL (s^^^4294967295) (xs.take m)^^^4294967295=crc s xs:=by rw [←h,List.take_length];rfl
theorem xor_half (a b:Nat):(a^^^b)/2=a/2^^^b/2:=by
  have:=Nat.shiftRight_xor_distrib (a:=a) (b:=b) (i:=1)
  simpa [Nat.shiftRight_eq_div_pow] using this
theorem xor_low (a b:Nat):(a^^^b)%2=(a%2+b%2)%2:=by
  rw [←Nat.and_one_is_mod,Nat.and_xor_distrib_right,Nat.and_one_is_mod,Nat.and_one_is_mod]
  have h1:a%2=0∨a%2=1:=(by omega);have h2:b%2=0∨b%2=1:=(by omega)
  rcases h1 with h1|h1<;>rcases h2 with h2|h2<;>rw [h1,h2]<;>rfl
def rfk (k c x:Nat):Nat:=crk k c^^^x/2^k
theorem rfk_zero {c x:Nat}:rfk 0 (c^^^x) x=c:=by
  unfold rfk crk;rw [Nat.pow_zero,Nat.div_one,Nat.xor_assoc,Nat.xor_self,Nat.xor_zero]
theorem rfk_eight {c x:Nat}(h:x<256):rfk 8 c x=crk 8 c:=by
  unfold rfk;rw [Nat.div_eq_of_lt h,Nat.xor_zero]
theorem rfk_step {k c x:Nat}:rfk (k+1) c x=if (x/2^k%2≠rfk k c x%2) then (rfk k c x/2)^^^2197175160 else rfk k c x/2:=by
  have h1:rfk k c x/2=crk k c/2^^^x/2^(k+1):=(by unfold rfk;rw [xor_half,Nat.pow_succ,Nat.div_div_eq_div_mul]);have h2:rfk k c x%2=(crk k c%2+x/2^k%2)%2:=xor_low _ _;have h3:rfk (k+1) c x=crs (crk k c)^^^x/2^(k+1):=rfl;rw [h1,h3]
  unfold crs
  by_cases h:crk k c%2=1
  . rw [if_pos oqz,h];ac_rfl
  have h0:crk k c%2=0:=(by omega);rw [if_neg oqz,h0];simp
theorem rfk_t {k c x:Nat}(h:((x/2^k%2:Nat):Int)≠((rfk k c x%2:Nat):Int)):rfk k c x/2^^^2197175160=rfk (k+1) c x:=by
  rw [rfk_step,if_pos oqz]
theorem rfk_f {k c x:Nat}(h:((x/2^k%2:Nat):Int)=((rfk k c x%2:Nat):Int)):rfk k c x/2=rfk (k+1) c x:=by
  rw [rfk_step,if_neg oqz]
section
variable {P:Program} {n:Nat} {ρ:Env} {A:SP} {dst:Option Tmp} {ty:TypeId} {pos:String} {after:Array Edge} {gd:Option (Nat×Bool)}
theorem o_quoU {t t':TypeId}{x y:Operand}{k:IntKind}{a b:Nat}(hk:k.signed=false)(hx:ev n ρ x= .int k (a:Nat))(hy:ev n ρ y= .int k (b:Nat))(hb:0<b)(ha:a<2^k.bits):OpV P n ρ A ⟨dst,.binOp .quo t x y t',ty,pos,after,gd⟩ (.int k ((a/b:Nat):Int)):=(o_quo hx hy oqz).cast (by
  rw [Int.tdiv_eq_ediv_of_nonneg oqz,show (a:Int)/(b:Int)=((a/b:Nat):Int) by simp,wrap_fit k hk _ (Nat.lt_of_le_of_lt (Nat.div_le_self _ _) ha)])
theorem o_remU {t t':TypeId}{x y:Operand}{k:IntKind}{a b:Nat}(hx:ev n ρ x= .int k (a:Nat))(hy:ev n ρ y= .int k (b:Nat))(hb:0<b):OpV P n ρ A ⟨dst,.binOp .rem t x y t',ty,pos,after,gd⟩ (.int k ((a%b:Nat):Int)):=(o_rem hx hy oqz).cast (by
  rw [Int.tmod_eq_emod_of_nonneg oqz,show (a:Int)%(b:Int)=((a%b:Nat):Int) by simp])
end
theorem rfk_lt {k c x:Nat}(hc:c<4294967296)(hx:x<256):rfk k c x<4294967296:=by
  refine x32 (crk_lt hc k) ?_;have:=Nat.div_le_self x (2^k);omega
attribute [local irreducible] crk crL crc Sl pt ro
theorem Zdg {p r:Prop}(k:r)(h:Kq r->p:=by intro k;refine sr ?_;refine Zz ?_;exact k.o):p:=h ⟨k⟩
theorem Zes {p r:Prop}(k:r)(h:Kq r->p:=by intro k;refine tv (o_len underlying67 rfl) ?_;refine Zb6 ?_;exact k.o):p:=h ⟨k⟩
theorem Zhd {p r:Prop}(k:r)(h:Kq r->p:=by intro k;refine Zz ?_;refine tlm ?_;exact k.o):p:=h ⟨k⟩
theorem Zc3 {p r:Prop}(k:r)(h:Kq r->p:=by intro k;refine Zbf ?_;refine Zr ?_;exact k.o):p:=h ⟨k⟩
theorem Zeo {p r:Prop}(k:r)(h:Kq r->p:=by intro k;refine Zc3 ?_;refine Zbz ?_;exact k.o):p:=h ⟨k⟩
theorem Zgo {p r:Prop}(k:r)(h:Kq r->p:=by intro k;refine tc_reg ?_;refine Zbz ?_;exact k.o):p:=h ⟨k⟩
theorem More_c {A:SP}{a:Option Addr}{m c s:Nat}{xs:List Nat}(hr:Rs A a (bys xs):=by exact rbqz)(hm:xs.length=m:=by first|assumption|rfl)(hb:∀x∈xs,x<256:=by assumption)(hs:s<4294967296:=by omega)(hl:m<=1099511627776:=by omega):
    Fn Tryz.prog 335 #[.int .u32 (s:Nat),.slice a m c] A (λ r B=>r= .int .u32 ((crc s xs:Nat):Int)/\ A=B):=by
  refine fn_enterW func335 rfl ntmps335 (by simp) ?_;refine Zdg ?_;refine tv (o_compl32 rfl hs) ?_;refine Zy ?_;refine Zes ?_;refine tc_loop (λ kk ρ BB=>∃ (i:Nat),(i<=m)/\ kk=m-i/\ ρ 5= .int .u32 ((crL (s^^^4294967295) (xs.take i):Nat):Int)/\ ρ 13=(vn i)/\ ρ 11= .slice a m c/\ ρ 12=(vn m)/\ BB=A) (m:=m-(0)) ?_ ?_
  . exact ⟨0,by omega,rfl,congrArg (λ z:Nat=>Value.int .u32 (z:Int)) (crL_0 _ _),rfl,rfl,rfl,rfl⟩
  intro k ρ B hI;obtain ⟨i,hp0,hkk1,hE5,hE13,hE11,hE12,hBA⟩:=hI;obtain rfl:=hBA.symm;refine te 5 hE5 ?_;refine te 13 hE13 ?_;refine te 11 hE11 ?_;refine te 12 hE12 ?_;refine Zb9 ?_;refine tc_cond rfl (λ h=> ?_) (λ h=> ?_)
  . have hi:i<xs.length:=(by simp at h;omega);have hx256:=hb _ (List.getElem_mem hi);have hC:=crL_lt (x32 hs (by decide:4294967295<4294967296)) (tk_b (i:=i) hb);have hR:=x32 hC (show xs[i]<4294967296 by omega);refine Zdt ?_;refine tv (o_ixP1 underlying67 sz5 rfl rfl sq2z sq1z) ?_;refine tv (o_ldP p5 rfl hr (bys_at (by assumption))) ?_;refine Zhd ?_;refine tv (by first|exact o_conv32 underlying5 underlying53 rfl|exact o_conv underlying5 underlying53 rfl) ?_;refine tl_env (d:=19) (v:= .int .u32 ((xs[i]:Nat):Int)) (congrArg (λ z:Nat=>Value.int .u32 (z:Int)) (Nat.mod_eq_of_lt oqz)) ?_;refine tv (o_xorN rfl rfl rfl (by show _<4294967296;assumption) (by show _<4294967296;omega)) ?_;refine Zz ?_;refine Zhq ?_;refine tc_loop (λ kk ρ BB=>∃ (k:Nat),(k<=8)/\ kk=8-k/\ ρ 5= .int .u32 ((crk k (crL (s^^^4294967295) (xs.take i)^^^xs[i]):Nat):Int)/\ ρ 21=(vn k)/\ ρ 11= .slice a m c/\ ρ 12=(vn m)/\ ρ 13=(vn i)/\ BB=A) (m:=8-(0)) ?_ ?_
    . exact ⟨0,by omega,rfl,congrArg (λ z:Nat=>Value.int .u32 (z:Int)) (crk_0 _),rfl,rfl,rfl,rfl,rfl⟩
    intro k ρ B hI;obtain ⟨k,hp0,hkk2,hE5,hE21,hE11,hE12,hE13,hBA⟩:=hI;obtain rfl:=hBA.symm;refine te 5 hE5 ?_;refine te 21 hE21 ?_;refine te 11 hE11 ?_;refine te 12 hE12 ?_;refine te 13 hE13 ?_;refine Zb9 ?_;refine tc_cond rfl (λ h=> ?_) (λ h=> ?_)
    . have hk:=crk_lt hR k;have hk8:k<8:=(by simp at h;omega);refine Zen ?_;refine tv ((o_andN (b:=1) rfl rfl rfl (by show _<4294967296;assumption) (by decide)).cast (by rw [and1])) ?_;refine Zz ?_;refine tv (o_shrN (b:=1) rfl rfl rfl (by decide)) ?_;refine Zfx ?_;refine tv (o_neg32 rfl oqz) ?_;refine tv (o_andN (a:=2197175160) rfl rfl rfl (by decide) (by show _<4294967296;omega)) ?_;refine tv (o_xorN rfl rfl rfl (by show _<4294967296;omega) (by show _<4294967296;exact Nat.and_lt_two_pow (n:=32) _ (by show _<4294967296;omega))) ?_;refine Zeo ?_;exact ⟨_,by omega,k+1,by omega,rfl,congrArg (λ z:Nat=>Value.int .u32 (z:Int)) (crk_and _ _),rfl,rfl,rfl,rfl,rfl⟩
    obtain rfl:k=8:=by simp at h;omega
    refine Zcw ?_;refine Zgo ?_;exact ⟨_,by omega,i+1,by omega,rfl,congrArg (λ z:Nat=>Value.int .u32 (z:Int)) (crL_take hi).symm,rfl,rfl,rfl,rfl⟩
  obtain rfl:i=m:=by simp at h;omega
  have hC2:=crL_lt (x32 hs (by decide:4294967295<4294967296)) (tk_b (i:=i) hb);refine Zcs ?_;refine tv (o_compl32 rfl hC2) ?_;refine Zl ?_;exact ⟨.int .u32 ((crc s xs:Nat):Int),A,res1 rfl (congrArg (λ z:Nat=>Value.int .u32 (z:Int)) (crc_of s xs hm)),λ _ _ h=>h,rfl,rfl⟩
theorem Zci {p r:Prop}(k:r)(h:Kq r->p:=by intro k;refine Za ?_;refine tc_seq ?_;exact k.o):p:=h ⟨k⟩
theorem Zbw {p r:Prop}(k:r)(h:Kq r->p:=by intro k;refine sr ?_;refine Za ?_;exact k.o):p:=h ⟨k⟩
theorem Zd7 {p r:Prop}(k:r)(h:Kq r->p:=by intro k;refine Zbw ?_;refine tc_block ?_;exact k.o):p:=h ⟨k⟩
theorem Zde {p r:Prop}(k:r)(h:Kq r->p:=by intro k;refine tlm ?_;refine tv (o_len underlying67 rfl) ?_;exact k.o):p:=h ⟨k⟩
theorem Zbr {p r:Prop}(k:r)(h:Kq r->p:=by intro k;refine tc_reg ?_;refine tlm ?_;exact k.o):p:=h ⟨k⟩
theorem Zhr {p r:Prop}(k:r)(h:Kq r->p:=by intro k;refine Zbr ?_;refine tv adqz ?_;exact k.o):p:=h ⟨k⟩
theorem MoreR_c {A:SP}{a:Option Addr}{m c s:Nat}{xs:List Nat}(hr:Rs A a (bys xs):=by exact rbqz)(hm:xs.length=m:=by first|assumption|rfl)(hb:∀x∈xs,x<256:=by assumption)(hs:s<4294967296:=by omega)(hl:m<=1099511627776:=by omega):
    Fn Tryz.prog 353 #[.int .u32 (s:Nat),.slice a m c] A (λ r B=>r= .int .u32 ((crc s xs:Nat):Int)/\ A=B):=by
  refine fn_enterW func353 rfl ntmps353 (by simp) ?_;refine Zdg ?_;refine tv (by first|exact o_conv64 underlying53 underlying141 rfl|exact o_conv underlying53 underlying141 rfl) ?_;refine tl_env (d:=11) (v:= .int .u64 ((s:Nat):Int)) (congrArg (λ z:Nat=>Value.int .u64 (z:Int)) (Nat.mod_eq_of_lt oqz)) ?_;refine tv (o_xorN (b:=4294967295) rfl rfl rfl (by show _<18446744073709551616;omega) (by decide)) ?_;refine Zci ?_;refine Zd7 ?_;refine tc_loop (λ kk ρ BB=>∃ (i:Nat),(i<=m)/\ kk=m-i/\ ρ 5= .int .u64 ((crL (s^^^4294967295) (xs.take i):Nat):Int)/\ ρ 6=(vn i)/\ ρ 1= .slice a m c/\ BB=A) (m:=m-(0)) ?_ ?_
  . exact ⟨0,by omega,rfl,congrArg (λ z:Nat=>Value.int .u64 (z:Int)) (crL_0 _ _),rfl,rfl,rfl⟩
  intro k ρ B hI;obtain ⟨i,hp0,hkk1,hE5,hE6,hE1,hBA⟩:=hI;obtain rfl:=hBA.symm;refine te 5 hE5 ?_;refine te 6 hE6 ?_;refine te 1 hE1 ?_;refine Zm ?_;refine Zde ?_;refine Zx ?_;refine tc_cond rfl (λ h=> ?_) (λ h=> ?_)
  . have hi:i<xs.length:=(by simp at h;omega);have hx256:=hb _ (List.getElem_mem hi);have hC:=crL_lt (x32 hs (by decide:4294967295<4294967296)) (tk_b (i:=i) hb);have hR:=x32 hC (show xs[i]<4294967296 by omega);refine Zbe ?_;refine Zd7 ?_;refine tc_loop (λ kk ρ BB=>∃ (k:Nat),(k<=8)/\ kk=8-k/\ ρ 5= .int .u64 ((rfk k (crL (s^^^4294967295) (xs.take i)^^^xs[i]) xs[i]:Nat):Int)/\ ρ 7=(vn k)/\ ρ 1= .slice a m c/\ ρ 6=(vn i)/\ BB=A) (m:=8-(0)) ?_ ?_
    . exact ⟨0,by omega,rfl,congrArg (λ z:Nat=>Value.int .u64 (z:Int)) rfk_zero.symm,rfl,rfl,rfl,rfl⟩
    intro k ρ B hI;obtain ⟨k,hp0,hkk2,hE5,hE7,hE1,hE6,hBA⟩:=hI;obtain rfl:=hBA.symm;refine te 5 hE5 ?_;refine te 7 hE7 ?_;refine te 1 hE1 ?_;refine te 6 hE6 ?_;refine Zm ?_;refine Zx ?_;refine tc_cond rfl (λ h=> ?_) (λ h=> ?_)
    . have hk8:k<8:=(by simp at h;omega);have hF:=rfk_lt (k:=k) hR hx256;have hd:=Nat.div_le_self xs[i] (2^k);refine Zen ?_;refine tlm ?_;refine tv (o_ixP1 underlying67 sz5 rfl rfl sq2z sq1z) ?_;refine tv (o_ldP p5 rfl hr (bys_at (by assumption))) ?_;refine tlm ?_;refine tv (o_shrN (b:=k) rfl rfl rfl (by show k<=8;omega)) ?_;refine tv (by first|exact o_conv64 underlying5 underlying141 rfl|exact o_conv underlying5 underlying141 rfl) ?_;refine tl_env (d:=29) (v:= .int .u64 ((xs[i]/2^k:Nat):Int)) (congrArg (λ z:Nat=>Value.int .u64 (z:Int)) (Nat.mod_eq_of_lt oqz)) ?_;refine tv (o_remU (b:=2) rfl rfl (by decide)) ?_;refine Zhd ?_;refine tv (o_remU (b:=2) rfl rfl (by decide)) ?_;refine tv (o_nei rfl rfl) ?_;refine Zz ?_;refine tv (o_quoU (b:=2) rfl rfl rfl (by decide) (by show _<18446744073709551616;omega)) ?_;refine Zz ?_;refine nq ?_;refine tc_cut (λ ρ BB=>ρ 5= .int .u64 ((rfk (k+1) (crL (s^^^4294967295) (xs.take i)^^^xs[i]) xs[i]:Nat):Int)/\ ρ 1= .slice a m c/\ ρ 6=(vn i)/\ ρ 7=(vn k)/\ BB=A) ?_ ?_
      . skip
        refine tc_cond rfl (sbq ?_) (sbq ?_)
        . intro h;refine Zbr ?_;refine tv (o_xorN (b:=2197175160) rfl rfl rfl (by show _<18446744073709551616;omega) (by decide)) ?_;refine Zbf ?_;exact ⟨by first|exact congrArg (λ z:Nat=>Value.int .u64 (z:Int)) (rfk_t h)|exact congrArg (λ z:Nat=>Value.int .u64 (z:Int)) (rfk_f (Classical.not_not.1 h)),rfl,rfl,rfl,rfl⟩
        intro h;refine tc_skip ?_;exact ⟨by first|exact congrArg (λ z:Nat=>Value.int .u64 (z:Int)) (rfk_t h)|exact congrArg (λ z:Nat=>Value.int .u64 (z:Int)) (rfk_f (Classical.not_not.1 h)),rfl,rfl,rfl,rfl⟩
      intro ρ B hI;obtain ⟨hE5,hE1,hE6,hE7,hBA⟩:=hI;obtain rfl:=hBA.symm;refine q_block_n (q_then_n ?_);refine te 5 hE5 ?_;refine te 1 hE1 ?_;refine te 6 hE6 ?_;refine te 7 hE7 ?_;refine Zhr ?_;refine Za ?_;exact ⟨_,by omega,k+1,by omega,rfl,rfl,rfl,rfl,rfl,rfl⟩
    obtain rfl:k=8:=by simp at h;omega
    refine Zcw ?_;refine Zhr ?_;refine Za ?_;exact ⟨_,by omega,i+1,by omega,rfl,congrArg (λ z:Nat=>Value.int .u64 (z:Int)) ((rfk_eight hx256).trans (crL_take hi).symm),rfl,rfl,rfl⟩
  obtain rfl:i=m:=by simp at h;omega
  have hC2:=crL_lt (x32 hs (by decide:4294967295<4294967296)) (tk_b (i:=i) hb);refine Zcs ?_;refine tv (o_xorN (b:=4294967295) rfl rfl rfl (by show _<18446744073709551616;omega) (by decide)) ?_;refine tv ((o_conv32 underlying141 underlying53 rfl).cast (congrArg (λ z:Nat=>Value.int .u32 (z:Int)) (Nat.mod_eq_of_lt (x32 (b:=4294967295) hC2 (by decide))))) ?_;refine Zl ?_;exact ⟨.int .u32 ((crc s xs:Nat):Int),A,res1 rfl (congrArg (λ z:Nat=>Value.int .u32 (z:Int)) (crc_of s xs hm)),λ _ _ h=>h,rfl,rfl⟩
end Go.Vl

namespace Go.Vl
open Go Go.Proofs Go.Proofs.Tryz
theorem ctqz {p:Prop}(h:p:=by exact cbqz):p:=h
def crcs (ls:List (List Nat)):Nat:=ls.foldl crc 0
theorem crcs_take {ls:List (List Nat)}{i:Nat}(h:i<ls.length):crcs (ls.take (i+1))=crc (crcs (ls.take i)) ls[i]:=by
  unfold crcs;rw [List.take_succ_eq_append_getElem h,List.foldl_append];rfl
theorem crcs_lt {ls:List (List Nat)}(hb:∀l∈ls,∀x∈l,x<256):crcs ls<4294967296:=by
  unfold crcs
  have:∀ (ls:List (List Nat)) (s:Nat),(∀l∈ls,∀x∈l,x<256)->s<4294967296->ls.foldl crc s<4294967296:=by
    intro ls
    induction ls with
    |nil=>intro s _ h;exact h
    |cons l ls ih=>intro s hb h;exact ih _ (λ l hl=>hb l (by simp [hl])) (crc_lt h (hb l (by simp)))
  exact this ls 0 hb (by decide)
attribute [local irreducible] crk crL crc Sl pt ro
theorem Zh6 {p r:Prop}(k:r)(h:Kq r->p:=by intro k;refine Zcs ?_;refine Zl ?_;exact k.o):p:=h ⟨k⟩
theorem Sum_c {A:SP}{a:Option Addr}{m c:Nat}{ls:List (List Nat)}(hr:RdRows A a ls)(hm:ls.length=m:=by first|assumption|rfl)(hb:∀l∈ls,∀x∈l,x<256)(hl:∀l∈ls,l.length<=1099511627776)(hm2:m<=1099511627776:=by omega):
    Fn Tryz.prog 305 #[.slice a m c] A (λ r B=>r= .int .u32 ((crcs ls:Nat):Int)/\ A=B):=by
  refine fn_enterW func305 rfl ntmps305 (by simp) ?_;obtain ⟨vs,hvl,hra,hrows⟩:=hr;have hra:=rs_rd hra;refine Zbw ?_;refine Zcb ?_;refine tv (o_len underlying35 rfl) ?_;refine Zb6 ?_;refine tc_loop (λ kk ρ BB=>∃ (i:Nat),(i<=m)/\ kk=m-i/\ ρ 3= .int .u32 ((crcs (ls.take i):Nat):Int)/\ ρ 8=(vn i)/\ ρ 6= .slice a m c/\ ρ 7=(vn m)/\ BB=A) (m:=m-(0)) ?_ ?_
  . exact ⟨0,by omega,rfl,rfl,rfl,rfl,rfl,rfl⟩
  intro k ρ B hI;obtain ⟨i,hp0,hkk1,hE3,hE8,hE6,hE7,hBA⟩:=hI;obtain rfl:=hBA.symm;refine te 3 hE3 ?_;refine te 8 hE8 ?_;refine te 6 hE6 ?_;refine te 7 hE7 ?_;refine Zb9 ?_;refine tc_cond rfl (λ h=> ?_) (sbq ?_)
  . have hi:i<ls.length:=(by simp at h;omega);obtain ⟨ai,ci,hvi,hri⟩:=hrows i hi;have hri:=rs_rd hri;have hbi:=hb _ (List.getElem_mem hi);have hli:=hl _ (List.getElem_mem hi);have hs32:=crcs_lt (ls:=ls.take i) λ l hl=>hb l (List.mem_of_mem_take hl)
    refine Zdt ?_;refine tv (o_ixP1 underlying35 sz67 rfl rfl oqz (nn_rs hra oqz)) ?_;refine tv (o_ldP p67 rfl hra hvi) ?_;refine Zfx ?_;refine tl_c rfl (o_call bd335 rfl (More_c (hr:=hri) (hb:=hbi) (hl:=hli) (hs:=hs32))) ?_;rintro _ _ ⟨rfl,rfl⟩;refine Zeo ?_;exact ⟨_,by omega,i+1,by omega,rfl,congrArg (λ z:Nat=>Value.int .u32 (z:Int)) (crcs_take hi).symm,rfl,rfl,rfl,rfl⟩
  intro h;refine Zh6 ?_;obtain rfl:i=m:=by omega
  exact ⟨.int .u32 ((crcs ls:Nat):Int),A,res1 rfl (congrArg (λ z:Nat=>Value.int .u32 (z:Int)) (congrArg crcs (List.take_of_length_le oqz))),λ _ _ h=>h,rfl,rfl⟩
theorem SumR_c {A:SP}{a:Option Addr}{m c:Nat}{xs:List Nat}(hr:Rs A a (bys xs):=by exact rbqz)(hm:xs.length=m:=by first|assumption|rfl)(hb:∀x∈xs,x<256:=by assumption)(hl:m<=1099511627776:=by omega):
    Fn Tryz.prog 341 #[.slice a m c] A (λ r B=>r= .int .u32 ((crc 0 xs:Nat):Int)/\ A=B):=by
  refine fn_enterW func341 rfl ntmps341 (by simp) ?_;refine Zdg ?_;refine tl_c rfl (o_call bd353 rfl (MoreR_c (s:=0) (hr:=hr))) ?_;rintro _ _ ⟨rfl,rfl⟩;refine Zl ?_;exact ⟨.int .u32 ((crc 0 xs:Nat):Int),A,res1 rfl rfl,λ _ _ h=>h,rfl,rfl⟩
theorem Zio {p r:Prop}(k:r)(h:Kq r->p:=by intro k;refine Zbw ?_;refine tc_seq ?_;exact k.o):p:=h ⟨k⟩
theorem Zeu {p r:Prop}(k:r)(h:Kq r->p:=by intro k;refine tlm ?_;refine tv (by first|exact o_mulI rfl rfl oqz|exact o_mul rfl rfl) ?_;exact k.o):p:=h ⟨k⟩
theorem Zfy {p r:Prop}(k:r)(h:Kq r->p:=by intro k;refine Zcv ?_;refine Za ?_;exact k.o):p:=h ⟨k⟩
theorem Little_c {A:SP}{v n:Nat}(hn:n<=8:=by decide):
    Fn Tryz.prog 76 #[.int .u64 (v:Nat),vn n] A (λ r B=>∃a c,r= .slice a n c/\ n<=c/\ B=A*Sl 1 (.slice a n c) n (bys (le n v))):=by
  refine fn_enterW func76 rfl ntmps76 (by simp) ?_;refine Zbw ?_;refine Zio ?_;refine Zd7 ?_;refine tc_pre (λ _ _ h=>sl_nil (k:=1) h) ?_;refine tc_loop (λ kk ρ BB=>∃ (i:Nat) (a5:Option Addr) (c5:Nat),(i<=n)/\ kk=n-i/\ ρ 5= .slice a5 i c5/\ ρ 6=(vn i)/\ ρ 0= .int .u64 (v:Nat)/\ ρ 1=(vn n)/\ BB=A*Sl 1 (.slice a5 i c5) i (bys (le i v))) (m:=n-(0)) ?_ ?_
  . exact ⟨0,none,0,by omega,rfl,rfl,rfl,rfl,rfl,rfl⟩
  intro k ρ B hI;obtain ⟨i,a5,c5,hp0,hkk1,hE5,hE6,hE0,hE1,rfl⟩:=hI;refine te 5 hE5 ?_;refine te 6 hE6 ?_;refine te 0 hE0 ?_;refine te 1 hE1 ?_;refine Zm ?_;refine tlm ?_;refine Zx ?_;refine tc_cond rfl (sbq ?_) (sbq ?_)
  . intro h;refine Zbe ?_;refine Zb0 ?_;refine Zeu ?_;refine tl_env (d:=15) (v:=(vn (8*i))) (rfl) ?_;refine tv (o_shrN (b:=8*i) rfl rfl rfl (by show 8*i<=64;omega)) ?_;refine tv (by first|exact o_conv8 underlying141 underlying5 rfl|exact o_conv underlying141 underlying5 rfl) ?_;refine tl_env (d:=17) (v:= .int .u8 ((v/256^i%256:Nat):Int)) (congrArg (λ z:Nat=>Value.int .u8 ((v/z%256:Nat):Int)) (Nat.pow_mul 2 8 i)) ?_;refine tl_x rfl (o_buildSlice1 underlying67 sz5 z5 wqz rfl) ?_;rintro _ _ ⟨b18,rfl,rfl⟩;refine tl_x rfl (o_apB underlying67 underlying67 sz5 by5 z5 rfl (by decide) (by decide) rfl rfl rfl ctqz rfl (by first|exact bys_all _|exact ints_all _|exact wds_all _|exact bos_all _|rfl) sq2z (by first|exact bys_sn _ _|exact ints_sn _ _|exact wds_sn _ _|exact bos_sn _ _|exact (bys_append _ _).symm|rfl)) ?_;rintro _ _ ⟨a19,c19,rfl,hc19,rfl⟩;refine Zc3 ?_;refine Zfy ?_;exact ⟨_,by omega,i+1,_,_,by omega,rfl,rfl,rfl,rfl,rfl,by rw [le_snoc]⟩
  intro h;refine Zk ?_;refine tc_seq ?_;refine tc_have (λ _ _ h=>ct_cap ctqz h) λ hc5=> ?_
  refine Zbr ?_;refine Zl ?_;obtain rfl:i=n:=by omega
  exact ⟨_,_,res1 rfl rfl,λ _ _ h=>h,a5,c5,rfl,hc5,rfl⟩
end Go.Vl

namespace Go.Vl
open Go Go.Proofs Go.Proofs.Tryz
def sbys (s:ByteArray):List Nat:=s.data.toList.map λ b=>b.toNat
attribute [local irreducible] crk crL crc Sl pt ro
theorem Two_j {A:SP}{a1 a2:Option Addr}{m1 m2 c1 c2 b:Nat}{xs ys:List Nat}{E:TypeId}(h1:Rs A a1 (bys xs))(h2:Rs A a2 (bys ys))(e1:xs.length=m1)(e2:ys.length=m2)(hl:m1+m2<=17592186044416):
    Fn Tryz.prog 75 #[.slice (some ⟨b,0,none⟩) 2 2] (A*pt b (cl [.slice a1 m1 c1,.slice a2 m2 c2] E)) (λ r B=>∃a c,r= .slice a (m1+m2) c/\ m1+m2<=c/\ B=A*pt b (cl [.slice a1 m1 c1,.slice a2 m2 c2] E)*Sl 1 (.slice a (m1+m2) c) (m1+m2) (bys (xs++ys))):=by
  subst e1 e2;refine fn_rs (xs:=[.slice a1 xs.length c1,.slice a2 ys.length c2]) rs_pt0 λ hr=> ?_
  refine fn_rs h1.left λ h1=>fn_rs h2.left λ h2=> ?_
  have key:=JoinN_f (A*pt b (cl [.slice a1 xs.length c1,.slice a2 ys.length c2] E)) (some ⟨b,0,none⟩) 2 2 [xs,ys] ⟨_,rfl,hr,λ i hi=>by
    match i,hi with
    |0,_=>exact ⟨a1,c1,rfl,h1⟩
    |1,_=>exact ⟨a2,c2,rfl,h2⟩⟩ (by simp;omega) (by simp) rfl
  have e:([xs,ys]:List (List Nat)).flatten=xs++ys:=(by simp);rw [e] at key
  have e3:(xs++ys).length=xs.length+ys.length:=(by simp);rw [e3] at key
  exact fn_sl key
theorem Two_c {A:SP}{a1 a2:Option Addr}{m1 m2 c1 c2:Nat}{xs ys:List Nat}(h1:Rs A a1 (bys xs):=by exact rbqz)(h2:Rs A a2 (bys ys):=by exact rbqz)(e1:xs.length=m1:=by first|assumption|rfl)(e2:ys.length=m2:=by first|assumption|rfl)(hl:m1+m2<=17592186044416:=by omega):
    Fn Tryz.prog 340 #[.slice a1 m1 c1,.slice a2 m2 c2] A (λ r B=>∃a c,r= .slice a (m1+m2) c/\ m1+m2<=c/\ B=A*Sl 1 (.slice a (m1+m2) c) (m1+m2) (bys (xs++ys))):=by
  refine fn_enterW func340 rfl ntmps340 (by simp) ?_;refine Zdg ?_;refine tlm ?_;refine tl_x rfl (o_buildSliceL (k:=1) (vs:=[.slice a1 m1 c1,.slice a2 m2 c2]) (l:=[.slice a1 m1 c1,.slice a2 m2 c2]) underlying35 sz67 z67 rfl rfl (by decide) (by decide) (by intro v hv;simp at hv;rcases hv with rfl|rfl<;>rfl) rfl) ?_;rintro _ _ ⟨b7,rfl,rfl⟩;refine tl_c rfl (o_call bd75 rfl (Two_j h1 h2 e1 e2 hl)) ?_;rintro _ _ ⟨a8,c8,rfl,hc8,rfl⟩;refine Zl ?_;exact ⟨_,_,res1 rfl rfl,Dr.sat drqz,a8,c8,rfl,hc8,rfl⟩
end Go.Vl

namespace Go.Vl
open Go Go.Proofs Go.Proofs.Tryz
def planL (n:Int):List Int:=[n,128,32768,32896,(n-32896)/256]
def planT (n:Int):List Int×Int:=if 36992<=n/\ n<=4194304/\ n%64=0 then (planL n,0) else ([0,0,0,0,0],80)
def magicB:List Nat:=[86,69,76,76,85,77,48,49]
def mbs (ns:List Nat):List Nat:=magicB++ns.flatMap (le 8)
def sbB (ns:List Nat):List Nat:=mbs ns++le 8 (crc 0 (mbs ns))
def lineT (q0 q1 q2 q3 q4:Int):List Nat×Int:=if planT q0=([q0,q1,q2,q3,q4],0) then (sbB [q0.toNat,128,32768,32896,(q0.toNat-32896)/256,0],0) else ([],100)
def stE (s:DevS):Int:=if s.off=true then 5 else 0
theorem stE_rdy (s:DevS)(h:s.off=true):rdy s.ls.length s.off 0 0=5:=by unfold rdy;rw [if_pos h]
theorem Load0_c {A R:SP}{C:SP->SP}{d:Nat}{s:DevS}(hc:Ct A (Dev d s) R C):Fn Tryz.prog 247 #[pz d,.int .i64 0,.int .i64 0] A (λ r B=>∃v:Value,r= .tuple #[v,.int .i64 (stE s)]/\ A=B):=by
  by_cases h:s.off=true
  . have e:stE s=5:=if_pos h;have:=LoadNo_c hc (p:=0) (m:=0) oqz oqz (by rw [stE_rdy s h];decide);rw [stE_rdy s h] at this
    rw [e]
    exact this.mono λ _ _ ⟨h1,h2⟩=>⟨_,h1,h2⟩
  have e:stE s=0:=if_neg h;rw [e]
  intro g w hs;refine (Load_c hc (p:=0) (m:=0) (by simpa using h) oqz g w hs).mono ?_;rintro e w' ⟨v,B,rfl,⟨a,c,rfl,_,rfl⟩,hB⟩;exact ⟨_,_,rfl,⟨_,rfl,rfl⟩,hB.left⟩
attribute [local irreducible] crk crL crc Sl pt ro mbs sbB planT Dev
theorem Zey {p r:Prop}(k:r)(h:Kq r->p:=by intro k;refine Zbq ?_;refine Zz ?_;exact k.o):p:=h ⟨k⟩
theorem alive_c {A R:SP}{C:SP->SP}{d:Nat}{s:DevS}(hc:Ct A (Dev d s) R C:=by exact cbqz):
    Fn Tryz.prog 287 #[pz d] A (λ r B=>r= .int .i64 (stE s)/\ A=B):=by
  refine fn_enterW func287 rfl ntmps287 (by simp) ?_;refine Zdg ?_;refine tl_c rfl (o_call bd247 rfl (Load0_c hc)) ?_;rintro _ _ ⟨v7,rfl,rfl⟩;refine Zey ?_;refine Zl ?_;exact ⟨.int .i64 (stE s),A,res1 rfl rfl,λ _ _ h=>h,rfl,rfl⟩
end Go.Vl

namespace Go.Vl.Rg
open Go
class Rm where
  r:Option Nat
def Fc (μ:Rm):Fence:={ Fence.wide with round:=μ.r }
def blk:Value->Nat
  | .int _ i=>i.toNat
  |_=>0
def mks:Value->List Nat
  | .tuple vs=>vs.toList.map blk
  |_=>[]
def mkv (rs:List Nat):Value:= .tuple (rs.map λ r:Nat=>Value.int .i64 (r:Int)).toArray
theorem mks_mkv (rs:List Nat):mks (mkv rs)=rs:=by
  simp only [mkv,mks,List.map_map]
  induction rs with
  |nil=>rfl
  |cons r rs ih=>rw [List.map_cons,ih];rfl
def mark (r:Nat):Deferred:={ target:= .collected r,args:= #[] }
def mkO:Obj:= .deferred (some [])
structure Agr (n:Nat) (ρ:Env) (a:Act):Prop where
  df:a.defers=(mks (ρ n)).map mark
  sz:a.tmps.size=n
  ev:∀t,t<n->a.tmps.getD t undef=ρ t
def put (n:Nat)(ρ:Env):Option Tmp->Value->Env
  |some d,v=>bif Nat.blt d n then upd ρ d v else ρ
  |none,_=>ρ
theorem Agr.plain {n:Nat}{ρ:Env}{a:Act}(h:Agr n ρ a):Vl.Agr n ρ { a with defers:=[] }:=⟨rfl,h.sz,h.ev⟩
theorem Agr.eval {n:Nat}{ρ:Env}{a:Act}(h:Agr n ρ a):a.eval=Vl.ev n ρ:=by
  rw [←h.plain.eval];rfl
theorem Agr.put {n:Nat}{ρ:Env}{a:Act}(h:Agr n ρ a)(d:Option Tmp)(v:Value):Agr n (Rg.put n ρ d v) (a.put d v):=by
  cases d with
  |none=>exact h
  |some d=>
    simp only [Rg.put]
    cases hb:Nat.blt d n with
    |true=>
      have hlt:=Nat.blt_eq.mp hb;have:=h.plain.put (some d) v;refine ⟨?_,this.sz,this.ev⟩
      have hn:Nat.beq n d=false:=by
        cases hb:Nat.beq n d with
        |false=>rfl
        |true=>have:=Nat.eq_of_beq_eq_true hb;omega
      simp only [Act.put,cond_true,upd,hn,cond_false]
      exact h.df
    |false=>
      have hge:n<=d:=by
        rcases Nat.lt_or_ge d n with hlt|hge
        . rw [Nat.blt_eq.mpr hlt] at hb;cases hb
        exact hge
      refine ⟨h.df,by simp [Act.put,h.sz],λ t ht=> ?_⟩
      simp only [Act.put,cond_false]
      rw [←h.ev t ht,Array.getD_eq_getD_getElem?,Array.getElem?_setIfInBounds,if_neg oqz,Array.getD_eq_getD_getElem?]
def lift (g:Gh)(n:Nat)(Q:Post):Exit->Act->World->Prop:=λ e a w=>okE e=true/\∃ρ A,Agr n ρ a/\ sat g w A/\ Q e ρ A
def TC [μ:Rm](P:Program)(n:Nat)(c:Code)(Q:Post)(ρ:Env)(A:SP):Prop:=
  ∀g a w,Agr n ρ a->sat g w A->c.wpIn (Fc μ) 0 P (lift g n Q) a w
def TL [μ:Rm](P:Program)(n:Nat)(ops:Array Oper)(Q:Post)(l:List Oper)(ρ:Env)(A:SP):Prop:=
  ∀g a w,Agr n ρ a->sat g w A->wpListIn (Fc μ) 0 P ops (lift g n Q) l a w
def Yd (P:Program)(l:Nat)(args:Array Value)(A:SP)(Q:Value->SP->Prop):Prop:=
  ∀g w,sat g w A->∃f tmps assign body,(Instr.yield l args).run P w= .ok (.round l f tmps assign body) w∧
    RoundIn Fence.wide 0 P l f tmps assign body w λ e w'=>∃v B,e= .returned v/\ Q v B/\ sat g w' B
theorem Yd.mono {P:Program}{l:Nat}{args:Array Value}{A:SP}{Q Q':Value->SP->Prop}(h:Yd P l args A Q)(k:∀v B,Q v B->Q' v B):Yd P l args A Q':=λ g w hs=>
  let ⟨f,t,a,b,hy,hr⟩:=h g w hs
  ⟨f,t,a,b,hy,hr.mono λ _ _ ⟨v,B,e,q,s⟩=>⟨v,B,e,k v B q,s⟩⟩
theorem Yd.pre {P:Program}{l:Nat}{args:Array Value}{A A':SP}{Q:Value->SP->Prop}(h:Yd P l args A Q)(k:∀g w,sat g w A'->sat g w A):Yd P l args A' Q:=λ g w hs=>h g w (k g w hs)
section
variable {μ:Rm} {P:Program} {n:Nat} {Q:Post} {ρ:Env} {A:SP}
theorem tc_imp {c:Code}{Q':Post}(h:TC P n c Q ρ A)(k:∀e ρ A,Q e ρ A->Q' e ρ A):TC P n c Q' ρ A:=
  λ g a w ha hs=>wpIn_mono (h g a w ha hs) λ _ _ _ ⟨o,ρ,A,x,y,z⟩=>⟨o,ρ,A,x,y,k _ _ _ z⟩
theorem tc_pre {c:Code}{A':SP}(k:∀g w,sat g w A->sat g w A')(h:TC P n c Q ρ A'):TC P n c Q ρ A:=
  λ g a w ha hs=>h g a w ha (k g w hs)
theorem tc_eq {c:Code}{A':SP}(k:A=A')(h:TC P n c Q ρ A'):TC P n c Q ρ A:=k▸h
theorem tc_env {c:Code}{d:Nat}{v:Value}(h:ρ d=v)(k:TC P n c Q (upd ρ d v) A):TC P n c Q ρ A:=by
  rw [←env_set h] at k;exact k
theorem tc_have {c:Code}{p:Prop}(k:∀g w,sat g w A->p)(h:p->TC P n c Q ρ A):TC P n c Q ρ A:=
  λ g a w ha hs=>h (k g w hs) g a w ha hs
theorem tc_seq {x y:Code}(h:TC P n x (thenQ (TC P n y Q) Q) ρ A):TC P n (x.seq y) Q ρ A:=λ g a w ha hs=>
  wpIn_seq (wpIn_mono (h g a w ha hs) λ e a' w' ⟨hok,ρ',A',ha',hs',hq⟩=>by
    cases e with
    |normal=>exact hq g a' w' ha' hs'
    |_=>exact ⟨hok,ρ',A',ha',hs',hq⟩)
theorem tc_skip (h:Q .normal ρ A):TC P n .skip Q ρ A:=λ g a w ha hs=>wpIn_skip ⟨rfl,ρ,A,ha,hs,h⟩
theorem tc_label {l:Nat}(h:Q .normal ρ A):TC P n (.label l) Q ρ A:=λ g a w ha hs=>wpIn_label ⟨rfl,ρ,A,ha,hs,h⟩
theorem tc_ret (h:Q .ret ρ A):TC P n .ret Q ρ A:=λ g a w ha hs=>wpIn_ret ⟨rfl,ρ,A,ha,hs,h⟩
theorem tc_exit {id:Nat}(h:Q (.exit id) ρ A):TC P n (.exit id) Q ρ A:=λ g a w ha hs=>wpIn_exit ⟨rfl,ρ,A,ha,hs,h⟩
theorem tc_block {id:Nat}{c:Code}(h:TC P n c (blockQ id Q) ρ A):TC P n (.block id c) Q ρ A:=λ g a w ha hs=>
  wpIn_block (wpIn_mono (h g a w ha hs) λ e a' w' ⟨hok,ρ',A',ha',hs',hq⟩=>by
    cases e with
    |exit k=>
      simp only [Exit.inBlock]
      by_cases hk:k=id
      . subst hk
        simp only [blockQ,Nat.beq_refl,cond_true] at hq
        rw [if_pos rfl];exact ⟨rfl,ρ',A',ha',hs',hq⟩
      have:Nat.beq k id=false:=by
        cases hb:Nat.beq k id with
        |false=>rfl
        |true=>exact absurd (Nat.eq_of_beq_eq_true hb) hk
      simp only [blockQ,this,cond_false] at hq
      rw [if_neg hk];exact ⟨rfl,ρ',A',ha',hs',hq⟩
    |_=>exact ⟨hok,ρ',A',ha',hs',hq⟩)
theorem tc_cond {c:Operand}{x y:Code}{t:Bool}(hc:ev n ρ c= .bool t)(h1:t=true->TC P n x Q ρ A)(h2:t=false->TC P n y Q ρ A):TC P n (.cond c x y) Q ρ A:=λ g a w ha hs=>by
  refine wpIn_cond (t:=t) (by rw [ha.eval];exact hc) ?_
  cases t with
  |true=>exact h1 rfl g a w ha hs
  |false=>exact h2 rfl g a w ha hs
theorem tc_cond_t {c:Operand}{x y:Code}(hc:ev n ρ c= .bool true)(h:TC P n x Q ρ A):TC P n (.cond c x y) Q ρ A:=tc_cond hc (λ _=>h) (λ e=>by cases e)
theorem tc_cond_f {c:Operand}{x y:Code}(hc:ev n ρ c= .bool false)(h:TC P n y Q ρ A):TC P n (.cond c x y) Q ρ A:=tc_cond hc (λ e=>by cases e) (λ _=>h)
theorem tc_cut {c:Code}(M:Env->SP->Prop)(h:TC P n c (λ e ρ' A'=>match e with| .normal=>M ρ' A'|e=>Q e ρ' A') ρ A)(k:∀ρ' A',M ρ' A'->Q .normal ρ' A'):TC P n c Q ρ A:=
  tc_imp h λ e ρ' A' hq=>by
    cases e with
    |normal=>exact k _ _ hq
    |_=>exact hq
theorem tc_loop {c:Code}(I:Nat->Env->SP->Prop){m:Nat}(h0:I m ρ A)
    (round:∀k ρ A,I k ρ A->TC P n c (thenQ (λ ρ' A'=>∃k',k'<k/\ I k' ρ' A') Q) ρ A):TC P n (.loop c) Q ρ A:=λ g a w ha hs b kk cs hro hb hr=>by
  have key:∀k ρ A,I k ρ A->∀a w,Agr n ρ a->sat g w A->∃e a' w',lift g n Q e a' w'/\ ArrivesIn (Machine.fenced P (Fc μ)) P (lone (b.atR a (.code c:: .inLoop c::kk)) cs w) b kk cs e a' w':=by
    intro k
    induction k using Nat.strongRecOn with
    |_ k ih=>
      intro ρ A hI a w ha hs;obtain ⟨e,a₁,w₁,⟨hok,ρ₁,A₁,ha₁,hs₁,hq⟩,harr⟩:=round k ρ A hI g a w ha hs b (.inLoop c::kk) cs hro hb hr
      cases e with
      |normal=>
        obtain ⟨k',hlt,hI'⟩:=hq;obtain ⟨e₂,a₂,w₂,hq₂,harr₂⟩:=ih k' hlt ρ₁ A₁ hI' a₁ w₁ ha₁ hs₁;exact ⟨e₂,a₂,w₂,hq₂,.of_steps (StepsIn.trans harr (.one (fenced_calm hb hr rfl) stepR_inLoop)) harr₂⟩
      |exit id=>exact ⟨_,a₁,w₁,⟨hok,ρ₁,A₁,ha₁,hs₁,hq⟩,.pass (x:= .inLoop c) rfl (λ _ _=> .inl (by simp)) harr⟩
      |goto l=>exact ⟨_,a₁,w₁,⟨hok,ρ₁,A₁,ha₁,hs₁,hq⟩,.pass (x:= .inLoop c) rfl (λ _ _=> .inl (by simp)) harr⟩
      |ret=>exact ⟨_,a₁,w₁,⟨hok,ρ₁,A₁,ha₁,hs₁,hq⟩,.pass (x:= .inLoop c) rfl (λ _ _=> .inl (by simp)) harr⟩
      |panic ch=>exact ⟨_,a₁,w₁,⟨hok,ρ₁,A₁,ha₁,hs₁,hq⟩,.pass (x:= .inLoop c) rfl (λ _ _=> .inl (by simp)) harr⟩
      |outgrown=>exact ⟨_,a₁,w₁,⟨hok,ρ₁,A₁,ha₁,hs₁,hq⟩,.pass (x:= .inLoop c) rfl (λ _ _=> .inl (by simp)) harr⟩
  obtain ⟨e,a',w',hq,harr⟩:=key m ρ A h0 a w ha hs;exact ⟨e,a',w',hq,.of_steps (.one (fenced_calm hb hr rfl) stepR_loop) harr⟩
theorem want_eq {ops:Array Oper}{a:Act}{o:Oper}(ha:Agr n ρ a):Region.wanted o (yielded ops a.tmps)=wantE n ops ρ o:=by
  have:=Vl.want_eq (ops:=ops) (o:=o) ha.plain;exact this
theorem sem_eq {ro:Option Nat}{e:Operand->Value}{o:Oper}{w w':World}{x:Next}(h:(execOp e o).run P w= .ok x w')(hd:∀d,x≠ .defer d):(Oper.semAt ro e o).run P w= .ok x w':=by
  cases ro with
  |none=>exact h
  |some l=>
    by_cases hc:∃c,o.op= .defer c
    . exfalso
      obtain ⟨c,hc⟩:=hc
      unfold execOp at h
      rw [hc] at h
      simp only [] at h
      rw [Sem.run_bind] at h
      cases hr:(resolve e c o.type).run P w with
      |ok d w1=>rw [hr] at h;simp [Result.andThen,pure,Sem.run] at h;exact hd d h.1.symm
      |halt x w1=>rw [hr] at h;simp [Result.andThen] at h
    rw [Oper.semAt_eq _ _ _ λ c e=>hc ⟨c,e⟩];exact h
section
variable {ops:Array Oper} {o:Oper} {rest:List Oper}
theorem tl_nil (h:Q .normal ρ A):TL P n ops Q [] ρ A:=λ g a w ha hs=>wpListIn_nil ⟨rfl,ρ,A,ha,hs,h⟩
theorem tl_eq {A':SP}{l:List Oper}(k:A=A')(h:TL P n ops Q l ρ A'):TL P n ops Q l ρ A:=k▸h
theorem tl_pre {A':SP}{l:List Oper}(k:∀g w,sat g w A->sat g w A')(h:TL P n ops Q l ρ A'):TL P n ops Q l ρ A:=λ g a w ha hs=>h g a w ha (k g w hs)
theorem tl_env {l:List Oper}{d:Nat}{v:Value}(h:ρ d=v)(k:TL P n ops Q l (upd ρ d v) A):TL P n ops Q l ρ A:=by
  rw [←env_set h] at k;exact k
theorem tl_have {l:List Oper}{p:Prop}(k:∀g w,sat g w A->p)(h:p->TL P n ops Q l ρ A):TL P n ops Q l ρ A:=λ g a w ha hs=>h (k g w hs) g a w ha hs
theorem tl_bool {l:List Oper}{d:Nat}{b:Bool}(hv:ρ d= .bool b)(ht:b=true->TL P n ops Q l (upd ρ d (.bool true)) A)(hf:b=false->TL P n ops Q l (upd ρ d (.bool false)) A):TL P n ops Q l ρ A:=by
  cases b with
  |true=>exact tl_env hv (ht rfl)
  |false=>exact tl_env hv (hf rfl)
theorem tl_skip (hw:wantE n ops ρ o=false)(k:TL P n ops Q rest (put n ρ o.dst undef) A):TL P n ops Q (o::rest) ρ A:=λ g a w ha hs=>by
  unfold wpListIn
  rw [want_eq ha,hw]
  exact ⟨λ _ _=>trivial,k g _ w (ha.put _ _) hs⟩
theorem tl_v {v:Value}(hw:wantE n ops ρ o=true)(h:OpV P n ρ A o v)(k:TL P n ops Q rest (put n ρ o.dst v) A):TL P n ops Q (o::rest) ρ A:=λ g a w ha hs=>by
  unfold wpListIn
  rw [want_eq ha,hw,if_pos rfl]
  refine ⟨λ _ _=>trivial, ?_⟩;rw [ha.eval,sem_eq (h g w hs) (by simp)]
  exact k g _ w (ha.put _ _) hs
theorem tlm {d:Nat}{ty:TypeId}{pos:String}{after:Array Edge}{gd:Option (Nat×Bool)}{x:Operand}{v:Value}(k:TL P n ops Q rest (put n ρ (some d) v) A)(h:ev n ρ x=v:=by conv=>lhs;whnf)(hw:wantE n ops ρ ⟨some d,.move x,ty,pos,after,gd⟩=true:=by rfl):TL P n ops Q (⟨some d,.move x,ty,pos,after,gd⟩::rest) ρ A:=tl_v hw (o_move h) k
theorem tla {d:Nat}{ty:TypeId}{pos:String}{after:Array Edge}{gd:Option (Nat×Bool)}{x:Operand}{v:Value}(k:TL P n ops Q rest (put n ρ (some d) v) A)(h:ev n ρ x=v:=by conv=>lhs;whnf)(hw:wantE n ops ρ ⟨some d,.assign x,ty,pos,after,gd⟩=true:=by rfl):TL P n ops Q (⟨some d,.assign x,ty,pos,after,gd⟩::rest) ρ A:=tl_v hw (o_assign h) k
theorem tl_x {R:Value->SP->Prop}(hw:wantE n ops ρ o=true)(h:OpX P n ρ A o R)(k:∀v B,R v B->TL P n ops Q rest (put n ρ o.dst v) B):TL P n ops Q (o::rest) ρ A:=λ g a w ha hs=>by
  unfold wpListIn
  rw [want_eq ha,hw,if_pos rfl]
  refine ⟨λ _ _=>trivial, ?_⟩;obtain ⟨v,w',B,hr,hb,hR⟩:=h g w hs;rw [ha.eval,sem_eq hr (by simp)]
  exact k v B hR g _ w' (ha.put _ _) hb
theorem tl_u {B:SP}(hw:wantE n ops ρ o=true)(h:OpU P n ρ A o B)(k:TL P n ops Q rest (put n ρ o.dst undef) B):TL P n ops Q (o::rest) ρ A:=λ g a w ha hs=>by
  unfold wpListIn
  rw [want_eq ha,hw,if_pos rfl]
  refine ⟨λ _ _=>trivial, ?_⟩;obtain ⟨w',hr,hb⟩:=h g w hs;rw [ha.eval,sem_eq hr (by simp)]
  exact k g _ w' (ha.put _ _) hb
theorem tl_c {R:Value->SP->Prop}(hw:wantE n ops ρ o=true)(h:OpC P n ρ A o R)(k:∀v B,R v B->TL P n ops Q rest (put n ρ o.dst v) B):TL P n ops Q (o::rest) ρ A:=λ g a w ha hs=>by
  unfold wpListIn
  rw [want_eq ha,hw,if_pos rfl]
  refine ⟨λ _ _=>trivial, ?_⟩;obtain ⟨f,args,w',hr,hc⟩:=h g w hs;rw [ha.eval,sem_eq hr (by simp)]
  refine ⟨λ h=>(by cases h), ?_⟩;have hc':CallsIn Fence.wide (0-1) P f args w' λ e w''=>∃v B,e= .returned v/\ R v B/\ sat g w'' B:=callsIn_wide.2 hc
  refine CallsIn.mono (show CallsIn (Fc μ) (0-1) P f args w' _ from hc') λ e w'' ⟨v,B,he,hR,hb⟩=> ?_
  subst he;exact k v B hR g _ w'' (ha.put _ _) hb
theorem tl_y {R:Value->SP->Prop}{x:Operand}{l:Nat}{args:Array Operand}{tys:Array TypeId}{vs:List Value}{dst:Option Tmp}{ty:TypeId}{pos:String}{after:Array Edge}{gd:Option (Nat×Bool)}
    (hw:wantE n ops ρ ⟨dst,.call { callee:= .value x,args:=args,argTypes:=tys },ty,pos,after,gd⟩=true) (hx:ev n ρ x= .func (.yield l) #[] #[]) (hv:args.toList.map (ev n ρ)=vs) (h:Yd P l vs.toArray A R)
    (k:∀v B,R v B->TL P n ops Q rest (put n ρ dst v) B):TL P n ops Q (⟨dst,.call { callee:= .value x,args:=args,argTypes:=tys },ty,pos,after,gd⟩::rest) ρ A:=λ g a w ha hs=>by
  unfold wpListIn
  rw [want_eq ha,hw,if_pos rfl]
  refine ⟨λ _ _=>trivial, ?_⟩;obtain ⟨f,tmps,assign,body,hy,hr⟩:=h g w hs;have he:args.map (ev n ρ)=vs.toArray:=Array.ext' (by rw [Array.toList_map,hv])
  have hex:(execOp (ev n ρ) ⟨dst,.call { callee:= .value x,args:=args,argTypes:=tys },ty,pos,after,gd⟩).run P w= .ok (.round l f tmps assign body) w:=by
    simp only [execOp,resolve,hx,Deferred.ofValue,he]
    rw [run_bind (w':=w) (a:=⟨.fn (.yield l) #[],#[]++vs.toArray⟩) (by rfl)]
    simpa [invoke] using hy
  rw [ha.eval,sem_eq hex (by simp)]
  refine ⟨λ h=>(by cases h), ?_⟩;refine RoundIn.mono (show RoundIn (Fc μ) (0-1) P l f tmps assign body w _ from hr) λ e w'' ⟨v,B,he,hR,hb⟩=> ?_
  subst he;exact k v B hR g _ w'' (ha.put _ _) hb
theorem tc_reg {id:Nat}{l:List Oper}(h:TL P n l.toArray Q l ρ A):TC P n (.region id l.toArray false) Q ρ A:=λ g a w ha hs=>wpIn_region_lit (h g a w ha hs)
end
end
def Mk:List Nat->SP
  |[]=>emp
  |r::rs=>Mk rs*pt r mkO
def retW (P:Program)(n:Nat)(fn:Func)(Q:Value->SP->Prop):Post
  | .ret,ρ,A| .normal,ρ,A=>∃rs B,mks (ρ n)=rs/\ (∀g w,sat g w A->sat g w (B*Mk rs))/\∃v A',Res P n fn ρ B v/\ (∀g w,sat g w B->sat g w A')/\ Q v A'
  |_,_,_=>False
theorem leaves_mk {P:Program}{fn:Func}{tmps:Array Value}{R:Ending->World->Prop}{g:Gh}{B:SP}:∀ (rs:List Nat) (w:World),sat g w (B*Mk rs)→
    (∀w,sat g w B->∃v,(results fn tmps).run P w= .ok v w/\ R (.returned v) w)->LeavesInM Fence.wide 0 P fn tmps R (rs.map mark) .returning w
  |[],w,hs,h=>h w hs.left
  |r::rs,w,hs,h=>by
    have hs':sat g w (B*Mk rs*pt r mkO):=(by rw [star_assoc];exact hs);have hr:w.heap[r]? =some mkO:=has_here g w hs';refine ⟨by simp,.inl ⟨r,_,rfl,run_takeDeferred hr,leaves_mk rs _ ?_ h⟩⟩;have hu:Upd (B*Mk rs*pt r mkO) r mkO (.deferred none) (B*Mk rs*pt r (.deferred none)):=upd_here
    have:=hu.sat hs' (w':=w.putObj r (.deferred none)) (λ k=>by
      by_cases hk:k=r
      . subst hk;rw [if_pos rfl];exact World.putObj_heap_same (Array.getElem?_eq_some_iff.1 hr).1
      rw [if_neg hk];exact World.putObj_heap_other hk) rfl rfl rfl
    exact this.left
instance plainM:Rm:=⟨none⟩
theorem fn_enterW {P:Program}{f:FuncId}{fn:Func}{c:Code}{args:List Value}{A:SP}{Q:Value->SP->Prop}{n:Nat}(hf:P.funcs[f]? =some fn)(hb:fn.body=some c)
    (hn:fn.ntmps=n) (hle:args.length<=n) (h: @TC ⟨none⟩ P n c (retW P n fn Q) (argEnv und 0 args) A):Fn P f args.toArray A Q:=λ g w hs=>by
  refine callsIn_wide.1 (callsIn_of_wp_marks (n:=0) hf hb trivial (wpIn_mono (h g _ w ?_ hs) ?_))
  . have hsz:(args.toArray++Array.replicate (fn.ntmps-args.toArray.size) undef).size=n:=(by simp;omega)
    have key:∀ (l:List Value) (ρ:Env) (k t:Nat),argEnv ρ k l t=if k<=t/\ t<k+l.length then l.getD (t-k) undef else ρ t:=by
      intro l
      induction l with
      |nil=>intro ρ k t;simp only [argEnv,List.length_nil];rw [if_neg oqz]
      |cons v l ih=>
        intro ρ k t
        simp only [argEnv,ih,List.length_cons]
        by_cases h1:k+1<=t/\ t<k+1+l.length
        . rw [if_pos h1,if_pos oqz]
          have:t-k=(t-(k+1))+1:=(by omega);rw [this];simp
        rw [if_neg h1]
        by_cases h2:t=k
        . subst h2;rw [if_pos oqz]
          simp [upd]
        rw [if_neg oqz]
        have:Nat.beq t k=false:=by
          cases hb:Nat.beq t k with
          |false=>rfl
          |true=>exact absurd (Nat.eq_of_beq_eq_true hb) h2
        simp [upd,this]
    refine ⟨?_,hsz,λ t ht=> ?_⟩
    . rw [key,if_neg oqz];rfl
    rw [key]
    rw [Array.getD_eq_getD_getElem?,Array.getElem?_append]
    by_cases h1:t<args.length
    . rw [if_pos (by simpa using h1),if_pos oqz]
      simp
    rw [if_neg (by simpa using h1),if_neg oqz]
    simp only [List.size_toArray] at*
    rw [Array.getElem?_replicate]
    split<;>simp [und]
  rintro e a' w' ⟨_,ρ',A',ha',hs',hq⟩
  have fin:∀a' w',Agr n ρ' a'->sat g w' A'->retW P n fn Q .ret ρ' A'->LeavesInM Fence.wide 0 P fn a'.tmps (λ e w'=>∃v B,e= .returned v/\ Q v B/\ sat g w' B) a'.defers .returning w':=by
    intro a' w' ha' hs' hq;obtain ⟨rs,B,hm,hB,v,A2,hr,hi,hQ⟩:=hq;rw [ha'.df,hm]
    exact leaves_mk rs w' (hB g w' hs') λ w hw=>⟨v,by have:=hr g _ w ha'.plain hw;exact this,v,A2,rfl,hQ,hi g w hw⟩
  cases e with
  |normal=>exact fin a' w' ha' hs' hq
  |ret=>exact fin a' w' ha' hs' hq
  |_=>exact hq.elim
def Lp (l:Nat)(st:LoopState)(pe:Option Code)(n:Nat)(ρ:Env)(ps:Array Tmp)(assign body:Code):SP:=
  ex λ r:Loop=>λ h=>(r.state=st/\ r.pending=pe/\ r.params=ps/\ r.assign=assign/\ r.body=body/\ Vl.Agr n ρ { tmps:=r.tmps,defers:=[] })/\ pt l (.loop r) h
theorem lp_iff {l n:Nat}{st:LoopState}{pe:Option Code}{ρ:Env}{ps:Array Tmp}{assign body:Code}{R:SP}{g:Gh}{w:World}:sat g w (R*Lp l st pe n ρ ps assign body)↔
    ∃r:Loop,(r.state=st/\ r.pending=pe/\ r.params=ps/\ r.assign=assign/\ r.body=body/\ Vl.Agr n ρ { tmps:=r.tmps,defers:=[] })/\ sat g w (R*pt l (.loop r)):=by
  constructor
  . intro hs;obtain ⟨_,⟨x,y,hd,rfl,ha,r,hr,hb⟩,hx⟩:=hs.hp;exact ⟨r,hr,hs.os,hs.tape,hs.out,_,⟨x,y,hd,rfl,ha,hb⟩,hx⟩
  rintro ⟨r,hr,hs⟩;exact hs.mono λ h ⟨x,y,hd,e,ha,hb⟩=>⟨x,y,hd,e,ha,r,hr,hb⟩
theorem sat_putObj {R:SP}{l:Nat}{o o':Obj}{g:Gh}{w:World}(hs:sat g w (R*pt l o)):sat g (w.putObj l o') (R*pt l o'):=by
  have hr:w.heap[l]? =some o:=has_here g w hs
  exact (upd_here (R:=R) (b:=l) (o:=o) (o':=o')).sat hs (w':=w.putObj l o') (λ k=>by
    by_cases hk:k=l
    . subst hk;rw [if_pos rfl];exact World.putObj_heap_same (Array.getElem?_eq_some_iff.1 hr).1
    rw [if_neg hk];exact World.putObj_heap_other hk) rfl rfl rfl
def putL (n:Nat):Env->List Tmp->List Value->Env
  |ρ,t::ts,v::vs=>putL n (put n ρ (some t) v) ts vs
  |ρ,_,_=>ρ
theorem putL_agr {n:Nat}:∀ (ts:List Tmp) (vs:List Value) (ρ:Env) (a:Act),Agr n ρ a->Agr n (putL n ρ ts vs) { a with tmps:=(ts.zip vs).foldl (λ t (p:Tmp×Value)=>t.setIfInBounds p.1 p.2) a.tmps }
  |[],_,_,a,h=>by cases a;exact h
  |_::_,[],_,a,h=>by cases a;exact h
  |t::ts,v::vs,ρ,a,h=>putL_agr ts vs _ _ (h.put (some t) v)
def rndQ (l n:Nat)(ρ0:Env)(ps:Array Tmp)(assign body:Code)(Q:Value->Option Code->SP->Prop):Post
  | .normal,_,A=>∃B,(∀g w,sat g w A->sat g w (B*Lp l .busy none n ρ0 ps assign body))/\ Q (.bool true) none B
  | .ret,_,A=>∃B,(∀g w,sat g w A->sat g w (B*Lp l .busy none n ρ0 ps assign body))/\ Q (.bool false) (some .ret) B
  | .exit id,_,A=>∃B,(∀g w,sat g w A->sat g w (B*Lp l .busy none n ρ0 ps assign body))/\ Q (.bool false) (some (.exit id)) B
  |_,_,_=>False
def stOf:Option Code->LoopState
  |none=> .ready
  |some _=> .done
theorem yd_body {P:Program}{l n:Nat}{ρ:Env}{ps:Array Tmp}{assign body:Code}{A:SP}{vs:List Value}{Q:Value->Option Code->SP->Prop}(hn:vs.length=ps.size)(hm:mks (ρ n)=[])
    (h: @TC ⟨some l⟩ P n assign (λ e ρ' A'=>match e with
      | .normal=>∃B,(∀g w,sat g w A'->sat g w (B*Lp l .ready none n ρ ps assign body))/\ @TC ⟨some l⟩ P n body (rndQ l n ρ ps assign body Q) ρ' (B*Lp l .busy none n ρ ps assign body)
      |_=>False) (putL n ρ ps.toList vs) (A*Lp l .ready none n ρ ps assign body)):
    Yd P l vs.toArray (A*Lp l .ready none n ρ ps assign body) (λ v B=>∃C j,Q v j C/\ B=C*Lp l (stOf j) j n ρ ps assign body):=λ g w hs=>by
  obtain ⟨r,⟨h1,h2,h3,h4,h5,h6⟩,hs'⟩:=lp_iff.1 hs;have hl:w.heap[l]? =some (.loop r):=has_here g w hs';refine ⟨r.fn,(r.params.zip vs.toArray).foldl (λ tmps (x:Tmp×Value)=>tmps.setIfInBounds x.1 x.2) r.tmps,assign,body, ?_, ?_⟩
  . have:=run_yield (P:=P) (args:=vs.toArray) hl (by simp [h3,hn]);rw [h4,h5] at this;exact this
  have ha0:Agr n ρ { tmps:=r.tmps,defers:=[] }:=⟨by rw [hm];rfl,h6.sz,h6.ev⟩;have ha:=putL_agr ps.toList vs ρ _ ha0
  have e0:((r.params.zip vs.toArray).foldl (λ tmps (x:Tmp×Value)=>tmps.setIfInBounds x.1 x.2) r.tmps)=((ps.toList.zip vs).foldl (λ t (p:Tmp×Value)=>t.setIfInBounds p.1 p.2) r.tmps):=by
    rw [h3,←Array.foldl_toList,Array.toList_zip]
  refine roundIn_of_wpIn (F:=Fence.wide) trivial ?_
  show assign.wpIn (Fc ⟨some l⟩) 0 P _ { tmps:=(r.params.zip vs.toArray).foldl (λ tmps (x:Tmp×Value)=>tmps.setIfInBounds x.1 x.2) r.tmps,defers:=[] } w
  rw [e0]
  refine wpIn_mono (h g _ w ha hs) ?_;rintro e a1 w1 ⟨_,ρ1,A1,ha1,hs1,hq⟩
  cases e with
  |normal=>
    obtain ⟨B,hB,hbody⟩:=hq;have hs1:=hB g w1 hs1;obtain ⟨r1,⟨g1,g2,g3,g4,g5,g6⟩,hs1'⟩:=lp_iff.1 hs1;have hl1:w1.heap[l]? =some (.loop r1):=has_here g w1 hs1';refine ⟨_,run_beginRound hl1 g1, ?_⟩;have hs2:=sat_putObj (o':= .loop { r1 with state:= .busy }) hs1';have hs3:sat g (w1.putObj l (.loop { r1 with state:= .busy })) (B*Lp l .busy none n ρ ps assign body):=lp_iff.2 ⟨{ r1 with state:= .busy },⟨rfl,g2,g3,g4,g5,g6⟩,hs2⟩;refine wpIn_mono (show body.wpIn (Fc ⟨some l⟩) 0 P _ a1 _ from hbody g a1 _ ha1 hs3) ?_;rintro e a3 w3 ⟨_,ρ3,A3,ha3,hs4,hq3⟩
    have fin:∀ (jump:Option Code),(∃C,(∀g w,sat g w A3->sat g w (C*Lp l .busy none n ρ ps assign body))/\ Q (.bool jump.isNone) jump C)→
        ∃v w',(Instr.endRound l jump).run P w3= .ok v w'/\∃v' B',(Ending.returned v:Ending)= .returned v'/\ (∃C j,Q v' j C/\ B'=C*Lp l (stOf j) j n ρ ps assign body)/\ sat g w' B':=by
      rintro jump ⟨C,hC,hQ⟩;have hs4:=hC g w3 hs4;obtain ⟨r3,⟨k1,k2,k3,k4,k5,k6⟩,hs5⟩:=lp_iff.1 hs4;have hl3:w3.heap[l]? =some (.loop r3):=has_here g w3 hs5;refine ⟨_,_,run_endRound jump hl3,_,_,rfl,⟨C,jump,hQ,rfl⟩, ?_⟩;refine lp_iff.2 ⟨{ r3 with state:=if jump.isNone then .ready else .done,pending:=jump },⟨?_,rfl,k3,k4,k5,k6⟩,sat_putObj hs5⟩
      cases jump<;>rfl
    cases e with
    |normal=>exact fin none hq3
    |ret=>exact fin (some .ret) hq3
    |exit id=>exact fin (some (.exit id)) hq3
    |_=>exact hq3.elim
  |_=>exact hq.elim
def jmpQ (Q:Post)(ρ:Env)(A:SP):Option Code->Prop
  |none=>Q .normal ρ A
  |some .ret=>Q .ret ρ A
  |some (.exit id)=>Q (.exit id) ρ A
  |_=>False
theorem tc_range {P:Program}{n:Nat}{Q:Post}{ρ:Env}{A:SP}{x:Operand}{ps:Array Tmp}{assign body:Code}{gf:FuncId}{fs cs:List Value}(hx:ev n ρ x= .func (.func gf) fs.toArray cs.toArray)(hb:bodyB P gf=true)
    (h:∀r l:Nat,Fn P gf (fs++[Value.func (.yield l) #[] #[]]++cs).toArray (A*pt r mkO*Lp l .ready none n ρ ps assign body) λ _ B=>
      ∃st j C,st≠ .busy/\ B=C*pt r mkO*Lp l st j n ρ ps assign body/\ jmpQ Q (upd ρ n (mkv (r::mks (ρ n)))) (C*pt r mkO) j): @TC ⟨none⟩ P n (.rangeFunc x ps assign body) Q ρ A:=λ g a w ha hs=>by
  refine wpIn_rangeFunc λ fn _=> ?_
  obtain ⟨rec,hrec⟩:∃rec:Loop,rec={ state:= .ready,pending:=none,fn,tmps:=a.tmps,params:=ps,assign,body,defers:=w.heap.size }:=⟨_,rfl⟩;obtain ⟨W1,hW1⟩:∃W1,(w.alloc (.deferred (some []))).alloc (.loop rec)=W1:=⟨_,rfl⟩
  have hs1:sat g W1 (A*pt w.heap.size mkO*Lp (w.heap.size+1) .ready none n ρ ps assign body):=by
    rw [←hW1]
    have hsz:(w.alloc (.deferred (some []))).heap.size=w.heap.size+1:=(by simp);have:=(hs.alloc (.deferred (some []))).alloc (.loop rec);rw [hsz] at this
    exact lp_iff.2 ⟨rec,by rw [hrec];exact ⟨rfl,rfl,rfl,rfl,rfl,rfl,ha.sz,ha.ev⟩,this⟩
  refine ⟨w.heap.size+1,[mark w.heap.size],W1,{ target:= .fn (.func gf) cs.toArray,args:=fs.toArray++ #[.func (.yield (w.heap.size+1)) #[] #[]] },W1,gf,
    (fs++[Value.func (.yield (w.heap.size+1)) #[] #[]]++cs).toArray,W1, ?_, ?_,λ _ _=>trivial, ?_,λ h=>(by cases h), ?_⟩
  . rw [←hW1,hrec];exact run_enterLoop_outer _ _ _ _ _
  . simp only [resolve,ha.eval,hx]
    simp [Deferred.ofValue,ev,pure,bind,Sem.bind]
  . simp only [invoke]
    rw [run_callFunc hb];simp
  have hc:=h w.heap.size (w.heap.size+1) g W1 hs1;refine CallsIn.mono (show CallsIn (Fc ⟨none⟩) (0-1) P gf _ W1 _ from callsIn_wide.2 hc) ?_;rintro e w3 ⟨v,B,rfl,⟨st,j,C,hst,rfl,hj⟩,hs3⟩;obtain ⟨r3,⟨k1,k2,k3,k4,k5,k6⟩,hs5⟩:=lp_iff.1 hs3;have hl3:w3.heap[w.heap.size+1]? =some (.loop r3):=has_here g w3 hs5;refine ⟨_,_,run_endLoop hl3 (by rw [k1];exact hst), ?_⟩;have hs6:=(sat_putObj (o':= .loop { r3 with state:= .exhausted }) hs5).left
  have ha6:Agr n (upd ρ n (mkv (w.heap.size::mks (ρ n)))) { a with defers:=[mark w.heap.size]++a.defers }:=by
    refine ⟨?_,ha.sz,λ t ht=> ?_⟩
    . show [mark w.heap.size]++a.defers=_
      have:upd ρ n (mkv (w.heap.size::mks (ρ n))) n=mkv (w.heap.size::mks (ρ n)):=(by simp [upd]);rw [this,mks_mkv,ha.df];rfl
    have:Nat.beq t n=false:=by
      cases hb:Nat.beq t n with
      |false=>rfl
      |true=>have:=Nat.eq_of_beq_eq_true hb;omega
    simp only [upd,this,cond_false];exact ha.ev t ht
  rw [k2] at hs6 ⊢
  cases j with
  |none=>exact ⟨rfl,_,_,ha6,hs6,hj⟩
  |some c=>
    cases c with
    |ret=>exact wpIn_ret ⟨rfl,_,_,ha6,hs6,hj⟩
    |exit id=>exact wpIn_exit ⟨rfl,_,_,ha6,hs6,hj⟩
    |_=>exact hj.elim
def It (P:Program)(gf:FuncId)(fs cs:List Value)(K:SP)(N:Nat)(val:Nat->List Value):Prop:=
  ∀ (l:Nat) (J:Nat->SP->Prop) (X:SP->Prop) (S0:SP),J 0 S0→
    (∀F i S,i<N->J i S->Yd P l (val i).toArray (F*S) λ v B=>∃ (b:Bool) (S':SP),v= .bool b/\ (b=true->J (i+1) S')/\ (b=false->X S')/\ B=F*S')→
    Fn P gf (fs++[Value.func (.yield l) #[] #[]]++cs).toArray (S0*K) λ r B=>r= .tuple #[]/\ ((∃S,J N S/\ B=S*K)∨∃S,X S/\ B=S*K)
section
variable (l n:Nat) (ρ0:Env) (ps:Array Tmp) (assign body:Code) (F:SP)
def rndI (I1:SP->Prop)(X:Code->SP->Prop):Post
  | .normal,_,A=>∃S,(∀g w,sat g w A->sat g w (F*S))/\ I1 S
  | .ret,_,A=>∃S,(∀g w,sat g w A->sat g w (F*S))/\ X .ret S
  | .exit id,_,A=>∃S,(∀g w,sat g w A->sat g w (F*S))/\ X (.exit id) S
  |_,_,_=>False
def asgI (P:Program)(I1:SP->Prop)(X:Code->SP->Prop):Post
  | .normal,ρ,A=>∃S,(∀g w,sat g w A->sat g w (F*S))/\∀F,@TC ⟨some l⟩ P n body (rndI F I1 X) ρ (F*S)
  |_,_,_=>False
end
theorem tc_rangeI {P:Program}{n N:Nat}{Q:Post}{ρ:Env}{A A0 K:SP}{x:Operand}{ps:Array Tmp}{assign body:Code}{gf:FuncId}{fs cs:List Value}{val:Nat->List Value}(I:Nat->SP->Prop)(X:Code->SP->Prop)
    (hx:ev n ρ x= .func (.func gf) fs.toArray cs.toArray) (hb:bodyB P gf=true) (hit:It P gf fs cs K N val) (hps:∀i,(val i).length=ps.size) (hm:mks (ρ n)=[]) (hA:∀g w,sat g w A->sat g w (A0*K)) (h0:I 0 A0)
    (round:∀l F i S,i<N->I i S-> @TC ⟨some l⟩ P n assign (asgI l n body F P (I (i+1)) X) (putL n ρ ps.toList (val i)) (F*S))
    (done:∀r S,I N S->Q .normal (upd ρ n (mkv [r])) (S*K*pt r mkO)) (jump:∀r j S,X j S->jmpQ Q (upd ρ n (mkv [r])) (S*K*pt r mkO) (some j)): @TC ⟨none⟩ P n (.rangeFunc x ps assign body) Q ρ A:=by
  refine tc_pre hA (tc_range hx hb λ r l=> ?_);rw [hm]
  have hY:=hit l (λ i S=>∃S1,S=S1*pt r mkO*Lp l .ready none n ρ ps assign body/\ I i S1) (λ S=>∃j S1,S=S1*pt r mkO*Lp l .done (some j) n ρ ps assign body/\ X j S1) _ ⟨A0,rfl,h0⟩ ?_
  . refine Fn.mono (hY.pre λ _ _ h=>(show A0*K*pt r mkO*Lp l .ready none n ρ ps assign body=A0*pt r mkO*Lp l .ready none n ρ ps assign body*K by ac_rfl)▸h) ?_;rintro v B ⟨_,⟨_,⟨S1,rfl,hI⟩,rfl⟩|⟨_,⟨j,S1,rfl,hX⟩,rfl⟩⟩
    . exact ⟨.ready,none,S1*K,by simp,by ac_rfl,done r S1 hI⟩
    exact ⟨.done,some j,S1*K,by simp,by ac_rfl,jump r j S1 hX⟩
  rintro F i _ hi ⟨S1,rfl,hI⟩;have e1:∀ (S L:SP),F*S*pt r mkO*L=F*pt r mkO*L*S:=λ S L=>by ac_rfl
  have hb:=yd_body (P:=P) (l:=l) (n:=n) (ρ:=ρ) (ps:=ps) (assign:=assign) (body:=body) (A:=F*S1*pt r mkO) (vs:=val i)
    (Q:=λ v j C=>∃S2,C=F*S2*pt r mkO/\ ((j=none/\ v= .bool true/\ I (i+1) S2)∨∃c,j=some c/\ v= .bool false/\ X c S2)) (hps i) hm
    (by
      rw [e1]
      refine tc_imp (round l (F*pt r mkO*Lp l .ready none n ρ ps assign body) i S1 hi hI) λ e ρ' A' hq=> ?_
      cases e with
      |normal=>
        obtain ⟨S,hS,hbody⟩:=hq;refine ⟨F*S*pt r mkO,λ g w h=>by rw [e1];exact hS g w h, ?_⟩;rw [e1]
        refine tc_imp (hbody (F*pt r mkO*Lp l .busy none n ρ ps assign body)) λ e ρ2 A2 hq=> ?_
        cases e with
        |normal=>obtain ⟨S2,h2,hI2⟩:=hq;exact ⟨F*S2*pt r mkO,λ g w h=>by rw [e1];exact h2 g w h,S2,rfl,.inl ⟨rfl,rfl,hI2⟩⟩
        |ret=>obtain ⟨S2,h2,hI2⟩:=hq;exact ⟨F*S2*pt r mkO,λ g w h=>by rw [e1];exact h2 g w h,S2,rfl,.inr ⟨_,rfl,rfl,hI2⟩⟩
        |exit id=>obtain ⟨S2,h2,hI2⟩:=hq;exact ⟨F*S2*pt r mkO,λ g w h=>by rw [e1];exact h2 g w h,S2,rfl,.inr ⟨_,rfl,rfl,hI2⟩⟩
        |_=>exact hq.elim
      |_=>exact hq.elim)
  refine (hb.pre λ _ _ h=>(show F*(S1*pt r mkO*Lp l .ready none n ρ ps assign body)=F*S1*pt r mkO*Lp l .ready none n ρ ps assign body by ac_rfl)▸h).mono ?_;rintro v B ⟨C,j,⟨S2,rfl,⟨rfl,rfl,hI2⟩|⟨c,rfl,rfl,hX⟩⟩,rfl⟩
  . exact ⟨true,_,rfl,λ _=>⟨S2,rfl,hI2⟩,λ e=>(by cases e),by show _=F*(S2*pt r mkO*Lp l (stOf none) none n ρ ps assign body);ac_rfl⟩
  exact ⟨false,_,rfl,λ e=>(by cases e),λ _=>⟨c,S2,rfl,hX⟩,by show _=F*(S2*pt r mkO*Lp l (stOf (some c)) (some c) n ρ ps assign body);ac_rfl⟩
theorem yd_b {P:Program}{l:Nat}{args:Array Value}{J X:SP->Prop}{F S A':SP}{G:SP->SP}(h:Yd P l args (F*S) λ v B=>∃ (b:Bool) (S':SP),v= .bool b/\ (b=true->J S')/\ (b=false->X S')/\ B=F*S')(hA:A'=F*S)(hk:∀S:SP,F*S=G S):
    Yd P l args A' λ v B=>∃ (b:Bool) (S':SP),v= .bool b/\ (b=true->J S')/\ (b=false->X S')/\ B=G S':=by
  subst hA;refine h.mono λ v B ⟨b,S',e1,e2,e3,e4⟩=>⟨b,S',e1,e2,e3, ?_⟩
  rw [e4,hk]
theorem jmp_r {Q:Post}{ρ:Env}{A:SP}(h:Q .ret ρ A):jmpQ Q ρ A (some .ret):=h
theorem mk1 {B:SP}{r:Nat}{g:Gh}{w:World}(h:sat g w (B*pt r mkO)):sat g w (B*Mk [r]):=by
  show sat g w (B*(emp*pt r mkO));rw [emp_star];exact h
theorem mk0 {B:SP}{g:Gh}{w:World}(h:sat g w B):sat g w (B*Mk []):=by
  show sat g w (B*emp);rw [star_emp];exact h
end Go.Vl.Rg

namespace Go.Vl
open Go Go.Proofs Go.Proofs.Tryz
theorem star3 (S a b c:SP):S*(a*b*c)=S*a*b*c:=by rw [←star_assoc,←star_assoc]
theorem star2' (S a b:SP):S*(a*b)=S*a*b:=(star_assoc _ _ _).symm
attribute [local irreducible] Sl pt ro Dev imgS
namespace Rg
theorem Ydl {p r:Prop}(k:r)(h:Kq r->p:=by intro k;refine tc_seq ?_;refine tc_reg ?_;exact k.o):p:=h ⟨k⟩
theorem Ye5 {p r:Prop}(k:r)(h:Kq r->p:=by intro k;refine tl_v rfl (by first|exact o_load p3 rfl (by repeat (first|with_reducible exact has_here|with_reducible exact has_pt|apply has_left)) rfl|exact o_loadC p3 rfl (by assumption)) ?_;refine tl_v rfl (o_lss rfl rfl) ?_;exact k.o):p:=h ⟨k⟩
theorem Y9 {p r:Prop}(k:r)(h:Kq r->p:=by intro k;refine tl_v rfl (by first|exact o_load p3 rfl (by repeat (first|with_reducible exact has_here|with_reducible exact has_pt|apply has_left)) rfl|exact o_loadC p3 rfl (by assumption)) ?_;refine tl_v rfl (by first|exact o_load p3 rfl (by repeat (first|with_reducible exact has_here|with_reducible exact has_pt|apply has_left)) rfl|exact o_loadC p3 rfl (by assumption)) ?_;exact k.o):p:=h ⟨k⟩
theorem Ycx {p r:Prop}(k:r)(h:Kq r->p:=by intro k;refine tl_nil ?_;refine q_then_n ?_;exact k.o):p:=h ⟨k⟩
theorem Ygx {p r:Prop}(k:r)(h:Kq r->p:=by intro k;refine Ydl ?_;refine tlm ?_;exact k.o):p:=h ⟨k⟩
theorem units1_f {at_ n l N b1 b2 b3:Nat}{J:Nat->SP->Prop}{X:SP->Prop}{S0:SP}(h1:1<=n)(h2:at_+n<=9223372036854775807)(hN:N=((at_+n-1)/8-at_/8+1))(h0:J 0 S0)(hY:∀F i S,i<N->J i S->Yd Tryz.prog l #[vn (at_/8+i)] (F*S) (λ v B=>∃ (b:Bool) (S':SP),v= .bool b/\ (b=true->J (i+1) S')/\ (b=false->X S')/\ B=F*S')):
    Fn Tryz.prog 356 #[.func (.yield l) #[] #[],pz b1,pz b2,pz b3] (S0*pt b1 (cl [.int .i64 (at_:Int)] 3)*pt b2 (cl [.int .i64 (n:Int)] 3)*pt b3 (cl [.int .i64 8] 3)) (λ r B=>r= .tuple #[]/\ ((∃S,J N S/\ B=S*pt b1 (cl [.int .i64 (at_:Int)] 3)*pt b2 (cl [.int .i64 (n:Int)] 3)*pt b3 (cl [.int .i64 8] 3))∨∃S,X S/\ B=S*pt b1 (cl [.int .i64 (at_:Int)] 3)*pt b2 (cl [.int .i64 (n:Int)] 3)*pt b3 (cl [.int .i64 8] 3))):=by
  refine fn_enterW func356 rfl ntmps356 (by simp) ?_;refine tc_seq ?_;refine Ydl ?_;refine Ye5 ?_;refine tlm ?_;refine tl_bool (d:=8) rfl dbq (sbq ?_);intro h;refine Ye5 ?_;refine tl_v rfl (o_pick_f rfl wqz) ?_;refine tlm ?_;refine tl_bool (d:=12) rfl dbq (sbq ?_);intro h;refine Y9 ?_;refine tl_v rfl (by first|exact o_subI rfl rfl oqz|exact o_sub rfl rfl) ?_;refine tl_v rfl (o_gtr rfl rfl) ?_;refine tl_v rfl (o_pick_f rfl wqz) ?_;refine Ycx ?_;refine tc_cond rfl dbq (sbq ?_);intro h;refine tc_skip ?_;refine q_then_n ?_;refine Ydl ?_;refine Y9 ?_;refine tl_v rfl (o_quoN (b:=8) rfl rfl oqz) ?_;refine tla ?_;refine Ycx ?_;refine tc_block ?_;refine tc_loop (λ kk ρ BB=>∃ (k:Nat) (S:SP),(k<=N)/\ (J k S)/\ kk=N-k/\ ρ 5=(vn (at_/8+k))/\ ρ 35=undef/\ ρ 0= .func (.yield l) #[] #[]/\ ρ 1=(pz b1)/\ ρ 2=(pz b2)/\ ρ 3=(pz b3)/\ BB=S*pt b1 (cl [.int .i64 (at_:Int)] 3)*pt b2 (cl [.int .i64 (n:Int)] 3)*pt b3 (cl [.int .i64 8] 3)) (m:=N-(0)) ?_ ?_
  . exact ⟨0,S0,by omega,h0,rfl,rfl,rfl,rfl,rfl,rfl,rfl,rfl⟩
  intro k ρ B hI;obtain ⟨k,S,hp0,hp1,hkk1,hE5,hE35,hE0,hE1,hE2,hE3,rfl⟩:=hI;refine tc_env (d:=5) hE5 ?_;refine tc_env (d:=35) hE35 ?_;refine tc_env (d:=0) hE0 ?_;refine tc_env (d:=1) hE1 ?_;refine tc_env (d:=2) hE2 ?_;refine tc_env (d:=3) hE3 ?_;refine tc_seq ?_;refine Ygx ?_;refine Y9 ?_;refine tl_v rfl (by first|exact o_addI rfl rfl oqz|exact o_add rfl rfl) ?_;refine tl_v rfl (by first|exact o_subI rfl rfl oqz|exact o_sub rfl rfl) ?_;refine tl_v rfl (by first|exact o_load p3 rfl (by repeat (first|with_reducible exact has_here|with_reducible exact has_pt|apply has_left)) rfl|exact o_loadC p3 rfl (by assumption)) ?_;refine tl_v rfl (o_quoI rfl rfl oqz) ?_;refine tl_v rfl (o_leq rfl rfl) ?_;refine Ycx ?_;refine tc_cond rfl (sbq ?_) (sbq ?_)
  . intro h;refine tc_skip ?_;refine q_then_n ?_;refine tc_seq ?_;refine tc_block ?_;refine Ygx ?_;refine tlm ?_;refine tl_y rfl rfl rfl (yd_b (F:=pt b1 (cl [.int .i64 (at_:Int)] 3)*pt b2 (cl [.int .i64 (n:Int)] 3)*pt b3 (cl [.int .i64 8] 3)) (G:=λ S'=>S'*pt b1 (cl [.int .i64 (at_:Int)] 3)*pt b2 (cl [.int .i64 (n:Int)] 3)*pt b3 (cl [.int .i64 8] 3)) (hY _ k S oqz hp1) (by ac_rfl) (λ S'=>by ac_rfl)) ?_;rintro _ _ ⟨b33,S2,rfl,hT,hF,rfl⟩;refine tl_v rfl (o_not rfl) ?_;refine Ycx ?_;refine tc_cond rfl (λ h=> ?_) (λ h=> ?_)
    . have hb:b33=false:=(by simpa using h);subst hb;refine tc_ret ?_;refine q_block_r (q_then_r (q_then_r (q_block_r ?_)));exact ⟨[],_,rfl,λ _ _ h=>mk0 h,.tuple #[],S2*pt b1 (cl [.int .i64 (at_:Int)] 3)*pt b2 (cl [.int .i64 (n:Int)] 3)*pt b3 (cl [.int .i64 8] 3),res0 rfl,λ _ _ h=>h,rfl,.inr ⟨S2,hF rfl,rfl⟩⟩
    have hb:b33=true:=(by simpa using h);subst hb;refine tc_skip ?_;refine q_block_n (q_then_n ?_);refine tc_reg ?_;refine tlm ?_;refine tl_v rfl (by first|exact o_addI rfl rfl oqz|exact o_add rfl rfl) ?_;refine tla ?_;refine Ycx ?_;exact ⟨_,by omega,k+1,_,by omega,hT rfl,rfl,rfl,rfl,rfl,rfl,rfl,rfl,rfl⟩
  intro h;refine tc_exit ?_;refine q_then_e (q_then_e (q_block_x ?_));obtain rfl:k=N:=by omega
  exact ⟨[],_,rfl,λ _ _ h=>mk0 h,.tuple #[],S*pt b1 (cl [.int .i64 (at_:Int)] 3)*pt b2 (cl [.int .i64 (n:Int)] 3)*pt b3 (cl [.int .i64 8] 3),res0 rfl,λ _ _ h=>h,rfl,.inl ⟨S,hp1,rfl⟩⟩
end Rg
theorem units_it {at_ n N b1 b2 b3:Nat}(h1:1<=n)(h2:at_+n<=9223372036854775807)(hN:N=((at_+n-1)/8-at_/8+1)):
    Rg.It Tryz.prog 356 [] [pz b1,pz b2,pz b3] (pt b1 (cl [.int .i64 (at_:Int)] 3)*pt b2 (cl [.int .i64 (n:Int)] 3)*pt b3 (cl [.int .i64 8] 3)) N (λ i=>[vn (at_/8+i)]):=λ l J X S0 h0 hY=>by
  have hk:∀S:SP,S*(pt b1 (cl [.int .i64 (at_:Int)] 3)*pt b2 (cl [.int .i64 (n:Int)] 3)*pt b3 (cl [.int .i64 8] 3))=S*pt b1 (cl [.int .i64 (at_:Int)] 3)*pt b2 (cl [.int .i64 (n:Int)] 3)*pt b3 (cl [.int .i64 8] 3):=λ S=>star3 _ _ _ _
  rw [hk S0]
  refine (Rg.units1_f (J:=J) (X:=X) h1 h2 hN h0 hY).mono ?_;rintro v B ⟨rfl,⟨S,hS,rfl⟩|⟨S,hS,rfl⟩⟩
  . exact ⟨rfl,.inl ⟨S,hS,(hk S).symm⟩⟩
  exact ⟨rfl,.inr ⟨S,hS,(hk S).symm⟩⟩
theorem units_c {A:SP}{at_ n:Nat}:
    Fn Tryz.prog 355 #[vn at_,vn n,.int .i64 8] A (λ r B=>∃b1 b2 b3,r= .func (.func 356) #[] #[pz b1,pz b2,pz b3]/\ B=A*(pt b1 (cl [.int .i64 (at_:Int)] 3)*pt b2 (cl [.int .i64 (n:Int)] 3)*pt b3 (cl [.int .i64 8] 3))):=by
  refine fn_enterW func355 rfl ntmps355 (by simp) ?_;refine Zez ?_;rintro _ _ ⟨b3,rfl,rfl⟩;refine tl_x rfl (o_box rfl rfl) ?_;rintro _ _ ⟨b4,rfl,rfl⟩;refine tl_x rfl (o_box rfl rfl) ?_;rintro _ _ ⟨b5,rfl,rfl⟩;refine Za ?_;refine sr ?_;refine tv (o_makeFunc rfl rfl) ?_;refine Zl ?_;exact ⟨_,_,res1 rfl rfl,λ _ _ h=>h,b3,b4,b5,rfl,(star3 _ _ _ _).symm⟩
theorem Words_c {A:SP}{at_ n:Nat}:
    Fn Tryz.prog 352 #[vn at_,vn n] A (λ r B=>∃b1 b2 b3,r= .func (.func 356) #[] #[pz b1,pz b2,pz b3]/\ B=A*(pt b1 (cl [.int .i64 (at_:Int)] 3)*pt b2 (cl [.int .i64 (n:Int)] 3)*pt b3 (cl [.int .i64 8] 3))):=by
  refine fn_enterW func352 rfl ntmps352 (by simp) ?_;refine Zdg ?_;refine tlm ?_;refine tl_c rfl (o_call bd355 rfl (units_c)) ?_;rintro _ _ ⟨b17,b27,b37,rfl,rfl⟩;refine Zl ?_;exact ⟨_,_,res1 rfl rfl,λ _ _ h=>h,b17,b27,b37,rfl,rfl⟩
namespace Rg
theorem Yfl {p r:Prop}(k:r)(h:Kq r->p:=by intro k;refine tl_u rfl (o_stU rfl (by repeat (first|with_reducible exact upd_here|with_reducible exact upd_pt|apply upd_left)) sz3 rfl rfl (by first|decide|simp|omega) rfl) ?_;refine tl_nil ?_;exact k.o):p:=h ⟨k⟩
theorem Lines1_f {at_ n l0 N b1 b2:Nat}{J:Nat->SP->Prop}{X:SP->Prop}{S0:SP}(h1:1<=n)(h2:at_+n<=9223372036854775807)(hN:N=(at_+n-1)/64-at_/64+1)(h0:J 0 S0)(hY:∀F i S,i<N->J i S->Yd Tryz.prog l0 #[vn (at_/64+i)] (F*S) (λ v B=>∃ (b:Bool) (S':SP),v= .bool b/\ (b=true->J (i+1) S')/\ (b=false->X S')/\ B=F*S')):
    Fn Tryz.prog 351 #[.func (.yield l0) #[] #[],pz b1,pz b2] (S0*pt b1 (cl [.int .i64 (at_:Int)] 3)*pt b2 (cl [.int .i64 (n:Int)] 3)) (λ r B=>r= .tuple #[]/\ ((∃S,J N S/\ B=S*pt b1 (cl [.int .i64 (at_:Int)] 3)*pt b2 (cl [.int .i64 (n:Int)] 3))∨∃S,X S/\ B=S*pt b1 (cl [.int .i64 (at_:Int)] 3)*pt b2 (cl [.int .i64 (n:Int)] 3))):=by
  refine fn_enterW func351 rfl ntmps351 (by simp) ?_;refine Ydl ?_;refine tl_x rfl (o_box rfl rfl) ?_;rintro _ _ ⟨b3,rfl,rfl⟩;refine Ycx ?_;refine Ydl ?_;refine tl_x rfl (o_alloc z3 rfl) ?_;rintro _ _ ⟨b4,rfl,rfl⟩;refine tl_u rfl (o_stU rfl (by repeat (first|with_reducible exact upd_here|with_reducible exact upd_pt|apply upd_left)) sz3 rfl rfl (by first|decide|simp|omega) rfl) ?_;refine Ycx ?_;refine Ydl ?_;refine Y9 ?_;refine tl_c rfl (o_call bd352 rfl (Words_c)) ?_;rintro _ _ ⟨w1,w2,w3,rfl,rfl⟩;refine Ycx ?_;refine tc_block ?_;refine tc_rangeI (K:=(pt w1 (cl [.int .i64 (at_:Int)] 3)*pt w2 (cl [.int .i64 (n:Int)] 3)*pt w3 (cl [.int .i64 8] 3))) (N:=((at_+n-1)/8-at_/8+1)) (A0:=S0*pt b1 (cl [.int .i64 (at_:Int)] 3)*pt b2 (cl [.int .i64 (n:Int)] 3)*pt b3 (cl [.func (.yield l0) #[] #[]] 233)*pt b4 (cl [.int .i64 (-1)] 3)) (λ i S=>∃ (S1:SP) (c:Nat) (ws:Int),(J c S1)/\ ((i=0/\ c=0/\ ws= -1)∨(0<i/\ ws=(((at_/8+i-1)/8:Nat):Int)/\ c=(at_/8+i-1)/8-at_/64+1))/\ S=S1*pt b1 (cl [.int .i64 (at_:Int)] 3)*pt b2 (cl [.int .i64 (n:Int)] 3)*pt b3 (cl [.func (.yield l0) #[] #[]] 233)*pt b4 (cl [.int .i64 ws] 3)) (λ j S=>∃ (S1:SP) (ws:Int),j= .ret/\ (X S1)/\ S=S1*pt b1 (cl [.int .i64 (at_:Int)] 3)*pt b2 (cl [.int .i64 (n:Int)] 3)*pt b3 (cl [.func (.yield l0) #[] #[]] 233)*pt b4 (cl [.int .i64 ws] 3)) rfl bd356 (units_it (N:=((at_+n-1)/8-at_/8+1)) h1 h2 rfl) (λ _=>rfl) rfl (Dr.sat (by repeat (first|with_reducible exact dr_refl|apply dr_keep|apply dr_drop))) (⟨S0,0,-1,h0,by omega,rfl⟩) ?_ ?_ ?_
  . intro l F i S hi hI;obtain ⟨S1,c,ws,hi0,hi1,rfl⟩:=hI;refine tc_eq (by simp only [←star_assoc];rfl) ?_;have hcN:(at_/8+i)/8-at_/64<N:=(by omega);refine tc_env (d:=10) (v:=(vn (at_/8+i))) (rfl) ?_;refine tc_reg ?_;refine tla ?_;refine tl_nil ?_;refine ⟨S1*pt b1 (cl [.int .i64 (at_:Int)] 3)*pt b2 (cl [.int .i64 (n:Int)] 3)*pt b3 (cl [.func (.yield l0) #[] #[]] 233)*pt b4 (cl [.int .i64 ws] 3),λ g w h=>by simp only [←star_assoc];exact Dr.sat (by repeat (first|with_reducible exact dr_refl|apply dr_keep|apply dr_drop)) g w h,λ F=> ?_⟩;refine tc_eq (by simp only [←star_assoc];rfl) ?_;refine tc_block ?_;refine Ygx ?_;refine tl_v rfl (o_quoN (b:=8) rfl rfl oqz) ?_;refine tla ?_;refine Ycx ?_;refine tc_seq ?_;refine Ygx ?_;refine tl_v rfl (by first|exact o_load p3 rfl (by repeat (first|with_reducible exact has_here|with_reducible exact has_pt|apply has_left)) rfl|exact o_loadC p3 rfl (by assumption)) ?_;refine tl_v rfl (o_nei rfl rfl) ?_;refine tlm ?_;refine tl_bool (d:=16) rfl (λ h=> ?_) (λ h=> ?_)
    . have hne:(at_/8+i)/8=at_/64+c:=(by simp at h;omega);refine tl_v rfl (by first|exact o_load p233 rfl (by repeat (first|with_reducible exact has_here|with_reducible exact has_pt|apply has_left)) rfl|exact o_loadC p233 rfl (by assumption)) ?_;refine tlm ?_;refine tl_env (d:=18) (v:=(vn (at_/64+c))) (congrArg (λ z:Nat=>Value.int .i64 (z:Int)) hne) ?_;refine tl_y rfl rfl rfl (yd_b (F:=F*pt b1 (cl [.int .i64 (at_:Int)] 3)*pt b2 (cl [.int .i64 (n:Int)] 3)*pt b3 (cl [.func (.yield l0) #[] #[]] 233)*pt b4 (cl [.int .i64 ws] 3)) (G:=λ S'=>F*S'*pt b1 (cl [.int .i64 (at_:Int)] 3)*pt b2 (cl [.int .i64 (n:Int)] 3)*pt b3 (cl [.func (.yield l0) #[] #[]] 233)*pt b4 (cl [.int .i64 ws] 3)) (S:=S1) (hY _ c S1 oqz hi0) (by ac_rfl) (λ S'=>by ac_rfl)) ?_;rintro _ _ ⟨b19,S2,rfl,hT,hF,rfl⟩;refine tl_v rfl (o_not rfl) ?_;refine tl_v rfl (o_pick_t rfl wqz) ?_;refine Ycx ?_;refine tc_cond rfl (λ h=> ?_) (λ h=> ?_)
      . have hb:b19=false:=(by simpa using h);subst hb;refine tc_ret ?_;refine q_then_r (q_block_r ?_);exact ⟨(S2)*pt b1 (cl [.int .i64 (at_:Int)] 3)*pt b2 (cl [.int .i64 (n:Int)] 3)*pt b3 (cl [.func (.yield l0) #[] #[]] 233)*pt b4 (cl [.int .i64 (ws)] 3),λ g w h=>by simp only [←star_assoc];exact Dr.sat (by repeat (first|with_reducible exact dr_refl|apply dr_keep|apply dr_drop)) g w h,S2,ws,rfl,hF rfl,rfl⟩
      have hb:b19=true:=(by simpa using h);subst hb;refine tc_skip ?_;refine q_then_n ?_
      try rw [←hne]
      refine tc_reg ?_;refine tlm ?_;refine Yfl ?_;refine q_block_n ?_;exact ⟨(S2)*pt b1 (cl [.int .i64 (at_:Int)] 3)*pt b2 (cl [.int .i64 (n:Int)] 3)*pt b3 (cl [.func (.yield l0) #[] #[]] 233)*pt b4 (cl [.int .i64 ((((at_/8+i)/8:Nat):Int))] 3),λ g w h=>by simp only [←star_assoc];exact Dr.sat (by repeat (first|with_reducible exact dr_refl|apply dr_keep|apply dr_drop)) g w h,S2,c+1,(((at_/8+i)/8:Nat):Int),hT rfl,by omega,rfl⟩
    have hne:(((at_/8+i)/8:Nat):Int)=ws:=(by simpa using h);refine tl_skip rfl ?_;refine tl_skip rfl ?_;refine tl_skip rfl ?_;refine tl_skip rfl ?_;refine tl_v rfl (o_pick_f rfl wqz) ?_;refine Ycx ?_;refine tc_cond_f rfl ?_;refine tc_skip ?_;refine q_then_n ?_
    try rw [←hne]
    refine tc_reg ?_;refine tlm ?_;refine Yfl ?_;refine q_block_n ?_;exact ⟨(S1)*pt b1 (cl [.int .i64 (at_:Int)] 3)*pt b2 (cl [.int .i64 (n:Int)] 3)*pt b3 (cl [.func (.yield l0) #[] #[]] 233)*pt b4 (cl [.int .i64 ((((at_/8+i)/8:Nat):Int))] 3),λ g w h=>by simp only [←star_assoc];exact Dr.sat (by repeat (first|with_reducible exact dr_refl|apply dr_keep|apply dr_drop)) g w h,S1,c,(((at_/8+i)/8:Nat):Int),hi0,by omega,rfl⟩
  . intro r S hI;obtain ⟨S1,c,ws,hi0,hi1,rfl⟩:=hI;refine q_block_n ?_;obtain rfl:c=N:=by omega
    exact ⟨[r],S1*pt b1 (cl [.int .i64 (at_:Int)] 3)*pt b2 (cl [.int .i64 (n:Int)] 3),rfl,λ _ _ h=>mk1 (Dr.sat (A':=S1*pt b1 (cl [.int .i64 (at_:Int)] 3)*pt b2 (cl [.int .i64 (n:Int)] 3)*pt r mkO) (by repeat (first|with_reducible exact dr_refl|apply dr_keep|apply dr_drop)) _ _ h),.tuple #[],S1*pt b1 (cl [.int .i64 (at_:Int)] 3)*pt b2 (cl [.int .i64 (n:Int)] 3),res0 rfl,λ _ _ h=>h,rfl,.inl ⟨S1,hi0,rfl⟩⟩
  intro r j S hX;obtain ⟨S1,ws,rfl,hx0,rfl⟩:=hX;refine jmp_r ?_;refine q_block_r ?_;exact ⟨[r],S1*pt b1 (cl [.int .i64 (at_:Int)] 3)*pt b2 (cl [.int .i64 (n:Int)] 3),rfl,λ _ _ h=>mk1 (Dr.sat (A':=S1*pt b1 (cl [.int .i64 (at_:Int)] 3)*pt b2 (cl [.int .i64 (n:Int)] 3)*pt r mkO) (by repeat (first|with_reducible exact dr_refl|apply dr_keep|apply dr_drop)) _ _ h),.tuple #[],S1*pt b1 (cl [.int .i64 (at_:Int)] 3)*pt b2 (cl [.int .i64 (n:Int)] 3),res0 rfl,λ _ _ h=>h,rfl,.inr ⟨S1,hx0,rfl⟩⟩
end Rg
theorem Lines_it {at_ n N b1 b2:Nat}(h1:1<=n)(h2:at_+n<=9223372036854775807)(hN:N=(at_+n-1)/64-at_/64+1):
    Rg.It Tryz.prog 351 [] [pz b1,pz b2] (pt b1 (cl [.int .i64 (at_:Int)] 3)*pt b2 (cl [.int .i64 (n:Int)] 3)) N (λ i=>[vn (at_/64+i)]):=λ l J X S0 h0 hY=>by
  have hk:∀S:SP,S*(pt b1 (cl [.int .i64 (at_:Int)] 3)*pt b2 (cl [.int .i64 (n:Int)] 3))=S*pt b1 (cl [.int .i64 (at_:Int)] 3)*pt b2 (cl [.int .i64 (n:Int)] 3):=λ S=>star2' _ _ _
  rw [hk S0]
  refine (Rg.Lines1_f (J:=J) (X:=X) h1 h2 hN h0 hY).mono ?_;rintro v B ⟨rfl,⟨S,hS,rfl⟩|⟨S,hS,rfl⟩⟩
  . exact ⟨rfl,.inl ⟨S,hS,(hk S).symm⟩⟩
  exact ⟨rfl,.inr ⟨S,hS,(hk S).symm⟩⟩
theorem Lines_c {A:SP}{at_ n:Nat}:
    Fn Tryz.prog 336 #[vn at_,vn n] A (λ r B=>∃b1 b2,r= .func (.func 351) #[] #[pz b1,pz b2]/\ B=A*(pt b1 (cl [.int .i64 (at_:Int)] 3)*pt b2 (cl [.int .i64 (n:Int)] 3))):=by
  refine fn_enterW func336 rfl ntmps336 (by simp) ?_;refine Zez ?_;rintro _ _ ⟨b2,rfl,rfl⟩;refine tl_x rfl (o_box rfl rfl) ?_;rintro _ _ ⟨b3,rfl,rfl⟩;refine Za ?_;refine sr ?_;refine tv (o_makeFunc rfl rfl) ?_;refine Zl ?_;exact ⟨_,_,res1 rfl rfl,λ _ _ h=>h,b2,b3,rfl,(star2' _ _ _).symm⟩
end Go.Vl

namespace Go.Vl
open Go Go.Proofs Go.Proofs.Tryz
theorem ct_wf2 {A R:SP}{C:SP->SP}{d:Nat}{s:DevS}(hc:Ct A (Dev d s) R C){g:Gh}{w:World}(hs:sat g w A):WfD s:=by
  obtain ⟨rfl,_⟩:=hc;exact (dev_iff.1 hs).1
theorem doneS_len (s:DevS):(doneS s).ls.length=s.ls.length:=by
  unfold doneS
  split
  . rfl
  split
  . rfl
  simp [goesS,goPart_length]
theorem fl1_len (p:Int)(s:DevS):(fl1 p s).2.ls.length=s.ls.length:=by
  unfold fl1
  split
  . rfl
  rw [doneS_len];exact (onLine_fields _ _ s).2.2.2.2
def flF:Nat->Nat->DevS->Int×DevS
  |0,_,s=>fe s
  |k+1,q,s=>if (fl1 ((q*64:Nat):Int) s).1≠0 then fl1 ((q*64:Nat):Int) s else flF k (q+1) (fl1 ((q*64:Nat):Int) s).2
theorem flF_zero (q:Nat)(s:DevS):flF 0 q s=fe s:=rfl
theorem flF_e {N i q:Nat}{s s2:DevS}{e:Int}(hi:i<N)(h:fl1 (((q+i)*64:Nat):Int) s=(e,s2))(he:e≠0):flF (N-i) (q+i) s=(e,s2):=by
  rw [show N-i=(N-(i+1))+1 by omega]
  show (if _ then _ else _)=_
  rw [h,if_pos he]
theorem flF_o {N i q:Nat}{s s2:DevS}(hi:i<N)(h:fl1 (((q+i)*64:Nat):Int) s=(0,s2)):flF (N-i) (q+i) s=flF (N-(i+1)) (q+(i+1)) s2:=by
  rw [show N-i=(N-(i+1))+1 by omega]
  show (if _ then _ else _)=_
  rw [h,if_neg (by simp)];rfl
def lastS (p m:Nat)(s:DevS):Int×DevS:=flF ((p+m-1)/64-p/64+1) (p/64) s
attribute [local irreducible] Sl pt ro Dev imgS
namespace Rg
theorem Yfn {p r:Prop}(k:r)(h:Kq r->p:=by intro k;refine tl_u rfl (o_stU rfl (by repeat (first|with_reducible exact upd_here|with_reducible exact upd_pt|apply upd_left)) sz24 rfl rfl (by first|decide|simp|omega) rfl) ?_;refine Ycx ?_;exact k.o):p:=h ⟨k⟩
theorem last_c {A R:SP}{C:SP->SP}{d:Nat}{s:DevS}(hc:Ct A (Dev d s) R C:=by repeat (first|with_reducible exact ct_here|apply ct_left)){p m:Nat}(h1:1<=m:=by omega)(hpm:p+m<=s.ls.length*64:=by omega):
    Fn Tryz.prog 307 #[pz d,vn p,vn m] A (λ r B=>∃e s2,lastS p m s=(e,s2)/\ r= .int .i64 e/\ B=C (Dev d s2)):=by
  refine fn_enterW func307 rfl ntmps307 (by simp) ?_;refine tc_have (λ _ _ h=>ct_wf2 hc h) λ hw=> ?_
  obtain ⟨rfl,hC⟩:=hc;have htop:=hw.top;refine Ydl ?_;refine tl_x rfl (o_alloc z24 rfl) ?_;rintro _ _ ⟨b6,rfl,rfl⟩;refine Ycx ?_;refine Ygx ?_;refine tl_v rfl (o_makeFunc rfl rfl) ?_;refine tl_x rfl (o_alloc z433 rfl) ?_;rintro _ _ ⟨b7,rfl,rfl⟩;refine tl_u rfl (o_stU rfl (by repeat (first|with_reducible exact upd_here|with_reducible exact upd_pt|apply upd_left)) sz433 rfl rfl (by first|decide|simp|omega) rfl) ?_;refine Ycx ?_;refine tc_seq ?_;refine Ygx ?_;refine tlm ?_;refine tl_c rfl (o_call bd336 rfl (Lines_c)) ?_;rintro _ _ ⟨w1,w2,rfl,rfl⟩;refine Ycx ?_;refine tc_block ?_;refine tc_rangeI (K:=(pt w1 (cl [.int .i64 (p:Int)] 3)*pt w2 (cl [.int .i64 (m:Int)] 3))) (N:=((p+m-1)/64-p/64+1)) (A0:=R*Dev d s*pt b6 (cl [.int .i64 0] 24)*pt b7 (cl [.func (.func 264) #[pz d] #[]] 433)) (λ i S=>∃ (s1:DevS),(flF (((p+m-1)/64-p/64+1)-i) (p/64+i) s1=flF ((p+m-1)/64-p/64+1) (p/64) s)/\ (s1.ls.length=s.ls.length)/\ S=R*Dev d s1*pt b6 (cl [.int .i64 0] 24)*pt b7 (cl [.func (.func 264) #[pz d] #[]] 433)) (λ j S=>∃ (e:Int) (s1:DevS),j= .ret/\ (flF ((p+m-1)/64-p/64+1) (p/64) s=(e,s1))/\ S=R*Dev d s1*pt b6 (cl [.int .i64 e] 24)*pt b7 (cl [.func (.func 264) #[pz d] #[]] 433)) rfl bd351 (Lines_it (N:=((p+m-1)/64-p/64+1)) h1 oqz rfl) (λ _=>rfl) rfl (Dr.sat (by repeat (first|with_reducible exact dr_refl|apply dr_keep|apply dr_drop))) (⟨s,rfl,rfl,rfl⟩) ?_ ?_ ?_
  . intro l F i S hi hI;obtain ⟨s1,hi0,hi1,rfl⟩:=hI;refine tc_eq (by simp only [←star_assoc];rfl) ?_;refine tc_env (d:=15) (v:=(vn (p/64+i))) (rfl) ?_;refine tc_reg ?_;refine tla ?_;refine tl_nil ?_;refine ⟨R*Dev d s1*pt b6 (cl [.int .i64 0] 24)*pt b7 (cl [.func (.func 264) #[pz d] #[]] 433),λ g w h=>by simp only [←star_assoc];exact Dr.sat (by repeat (first|with_reducible exact dr_refl|apply dr_keep|apply dr_drop)) g w h,λ F=> ?_⟩;refine tc_eq (by simp only [←star_assoc];rfl) ?_;refine tc_block ?_;refine Ydl ?_;refine tl_v rfl (by first|exact o_load p433 rfl (by repeat (first|with_reducible exact has_here|with_reducible exact has_pt|apply has_left)) rfl|exact o_loadC p433 rfl (by assumption)) ?_;refine tlm ?_;refine tl_v rfl (by first|exact o_mulI rfl rfl oqz|exact o_mul rfl rfl) ?_;refine tl_env (d:=18) (v:= .int .i64 (((p/64+i)*64:Nat):Int)) (rfl) ?_;refine tl_c rfl (o_dyn bd264 rfl rfl (Flush_c (s:=s1) (p:=(((p/64+i)*64:Nat):Int)))) ?_;rintro _ _ ⟨e19,s19,hs19,rfl,rfl⟩;refine tla ?_;refine Ycx ?_;refine Ygx ?_;refine tl_v rfl (o_nei rfl rfl) ?_;refine Ycx ?_;refine tc_cond rfl (λ h=> ?_) (λ h=> ?_)
    . have h:e19≠0:=(by simpa using h);refine Ygx ?_;refine Yfn ?_;refine tc_ret ?_;refine q_block_r ?_;exact ⟨R*Dev d (s19)*pt b6 (cl [.int .i64 (e19)] 24)*pt b7 (cl [.func (.func 264) #[pz d] #[]] 433),λ g w h=>by simp only [←star_assoc];exact Dr.sat (by repeat (first|with_reducible exact dr_refl|apply dr_keep|apply dr_drop)) g w h,e19,s19,rfl,by rw [←hi0];exact flF_e hi hs19 h,rfl⟩
    obtain rfl:e19=0:=by simpa using h
    refine tc_skip ?_;refine q_block_n ?_;exact ⟨R*Dev d (s19)*pt b6 (cl [.int .i64 0] 24)*pt b7 (cl [.func (.func 264) #[pz d] #[]] 433),λ g w h=>by simp only [←star_assoc];exact Dr.sat (by repeat (first|with_reducible exact dr_refl|apply dr_keep|apply dr_drop)) g w h,s19,by rw [←hi0];exact (flF_o hi hs19).symm,by have:=fl1_len (((p/64+i)*64:Nat):Int) s1;rw [hs19] at this;exact this.trans hi1,rfl⟩
  . intro r S hI;obtain ⟨s1,hi0,hi1,rfl⟩:=hI;refine q_block_n (q_then_n ?_);refine Ygx ?_;refine tl_c rfl (o_call bd209 rfl (Fence_c (s:=s1))) ?_;rintro _ _ ⟨e24,s24,hs24,rfl,rfl⟩;have hlast:lastS p m s=(e24,s24):=(by show flF _ _ _=_;rw [←hi0,Nat.sub_self];exact hs24);refine Yfn ?_;refine tc_ret ?_;exact ⟨[r],R*Dev d s24*pt b6 (cl [.int .i64 e24] 24),rfl,λ _ _ h=>mk1 (Dr.sat (A':=R*Dev d s24*pt b6 (cl [.int .i64 e24] 24)*pt r mkO) (by repeat (first|with_reducible exact dr_refl|apply dr_keep|apply dr_drop)) _ _ h),.int .i64 e24,C (Dev d s24),resA1 rfl (rv_cell1 p24 rfl (by repeat (first|with_reducible exact has_here|with_reducible exact has_pt|apply has_left)) rfl),λ _ _ h=>by rw [hC];exact h.left,e24,s24,hlast,rfl,rfl⟩
  intro r j S hX;obtain ⟨e,s1,rfl,hx0,rfl⟩:=hX;refine jmp_r ?_;refine q_block_r (q_then_r ?_);exact ⟨[r],R*Dev d s1*pt b6 (cl [.int .i64 e] 24),rfl,λ _ _ h=>mk1 (Dr.sat (A':=R*Dev d s1*pt b6 (cl [.int .i64 e] 24)*pt r mkO) (by repeat (first|with_reducible exact dr_refl|apply dr_keep|apply dr_drop)) _ _ h),.int .i64 e,C (Dev d s1),resA1 rfl (rv_cell1 p24 rfl (by repeat (first|with_reducible exact has_here|with_reducible exact has_pt|apply has_left)) rfl),λ _ _ h=>by rw [hC];exact h.left,e,s1,hx0,rfl,rfl⟩
end Rg
end Go.Vl

namespace Go.Vl
open Go Go.Proofs Go.Proofs.Tryz
def insB (n:Nat)(p m:Int):Bool:=decide (0<=p/\ 0<=m/\ p<=(n:Int)*64/\ m<=(n:Int)*64-p)
theorem insB_rdy {n:Nat}{p m:Int}:insB n p m=true↔rdy n false p m=0:=by
  unfold insB rdy
  simp only [decide_eq_true_eq,Bool.false_eq_true,if_false]
  constructor
  . intro h;rw [if_neg oqz]
  intro h
  by_cases hc:p<0∨m<0∨(n:Int)*64<p∨(n:Int)*64-p<m
  . rw [if_pos hc] at h;exact absurd h (by decide)
  omega
theorem stE_off {s:DevS}(h:stE s≠0):s.off=true:=by
  unfold stE at h;by_cases e:s.off=true
  . exact e
  rw [if_neg e] at h;exact absurd rfl h
theorem stE_on {s:DevS}(h:stE s=0):s.off=false:=by
  unfold stE at h;by_cases e:s.off=true
  . rw [if_pos e] at h;exact absurd h (by decide)
  simpa using e
theorem layS_len' (p v:Nat)(s:DevS):(layS p v s).ls.length=s.ls.length:=(onLine_fields _ _ s).2.2.2.2
theorem storeF_len:∀ (f p:Nat) (b:List Nat) (s:DevS),(storeF f p b s).2.ls.length=s.ls.length
  |0,_,_,_=>rfl
  |f+1,p,b,s=>by
    unfold storeF
    split
    . rfl
    split
    . rw [doneS_len,layS_len']
    rw [storeF_len,doneS_len,layS_len']
theorem sto_len (p:Int)(b:List Nat)(s:DevS):(sto p b s).2.ls.length=s.ls.length:=by
  unfold sto
  split
  . rfl
  exact storeF_len _ _ _ _
theorem st8_len (p:Int)(v:Nat)(s:DevS):(st8 p v s).2.ls.length=s.ls.length:=by
  unfold st8
  split
  . rfl
  split
  . rfl
  rw [doneS_len,layS_len']
theorem st8_rdy {p:Int}{v:Nat}{s:DevS}(h:(st8 p v s).1=0):rdy s.ls.length s.off p 8=0:=by
  unfold st8 at h
  split at h
  . exact h
  rename_i h2;exact Classical.not_not.1 h2
def rangeP (p m:Int)(s:DevS):Int×DevS:=if s.off=true then (5,s) else if m<1 then (0,s) else if rdy s.ls.length false p m≠0 then (6,s) else lastS p.toNat m.toNat s
def bytesP (p:Int)(b:List Nat)(s:DevS):Int×DevS:=if s.off=true then (5,s) else if b=[] then (0,s) else if (sto p b s).1≠0 then sto p b s else lastS p.toNat b.length (sto p b s).2
def pubP (p:Int)(v:Nat)(s:DevS):Int×DevS:=if (st8 p v s).1≠0 then st8 p v s else lastS p.toNat 8 (st8 p v s).2
def loadP (p:Int)(n:Nat)(s:DevS):Nat×Int:=if rdy s.ls.length s.off p n≠0 then (0,rdy s.ls.length s.off p n) else (nm (((imgS s).drop p.toNat).take n),0)
def wordP (p:Int)(s:DevS):Nat×Int:=if s.off=true then (0,5) else if p%8≠0 then (0,6) else loadP p 8 s
attribute [local irreducible] Sl pt ro Dev imgS
theorem Z1 {p r:Prop}(k:r)(h:Kq r->p:=by intro k;refine tv (o_pick_t rfl wqz) ?_;refine tlm ?_;exact k.o):p:=h ⟨k⟩
theorem Zee {p r:Prop}(k:r)(h:Kq r->p:=by intro k;refine tv (o_pick_t rfl wqz) ?_;refine Zl ?_;exact k.o):p:=h ⟨k⟩
theorem Zh7 {p r:Prop}(k:r)(h:Kq r->p:=by intro k;refine Zbj ?_;refine Zp ?_;exact k.o):p:=h ⟨k⟩
theorem Zef {p r:Prop}(k:r)(h:Kq r->p:=by intro k;refine tv (o_pick_f rfl wqz) ?_;refine Zl ?_;exact k.o):p:=h ⟨k⟩
theorem Zbo {p r:Prop}(k:r)(h:Kq r->p:=by intro k;refine tv (o_pick_f rfl wqz) ?_;refine tlm ?_;exact k.o):p:=h ⟨k⟩
theorem inside_c {A R:SP}{C:SP->SP}{d:Nat}{s:DevS}(hc:Ct A (Dev d s) R C:=by exact cbqz){p m:Int}(hp: -9223372036854775808<=p/\ p<=9223372036854775807:=by omega)(hm: -9223372036854775808<=m/\ m<=9223372036854775807:=by omega):
    Fn Tryz.prog 306 #[pz d,.int .i64 p,.int .i64 m] A (λ r B=>r= .bool (insB s.ls.length p m)/\ A=B):=by
  refine fn_enterW func306 rfl ntmps306 (by simp) ?_;refine tc_have (λ _ _ h=>ct_wf2 hc h) λ hw=> ?_
  have htop:=hw.top;refine Zdg ?_;refine tv (o_geq rfl rfl) ?_;refine tlm ?_;refine tl_bool (d:=9) rfl (sbq ?_) (sbq ?_)
  . intro h;refine tlm ?_;refine tv (o_geq rfl rfl) ?_;refine Z1 ?_;refine tl_bool (d:=13) rfl (sbq ?_) (sbq ?_)
    . intro h;refine Zt ?_;refine tl_c rfl (o_call bd155 rfl (Size_c hc)) ?_;rintro _ _ ⟨rfl,rfl⟩;refine tv (o_leq rfl rfl) ?_;refine Z1 ?_;refine tl_bool (d:=19) rfl (sbq ?_) (sbq ?_)
      . intro h;refine Zt ?_;refine tl_c rfl (o_call bd155 rfl (Size_c hc)) ?_;rintro _ _ ⟨rfl,rfl⟩;refine Zda ?_;refine tv (o_leq rfl rfl) ?_;refine Zee ?_;exact ⟨_,A,res1 rfl rfl,λ _ _ h=>h,congrArg Value.bool (by rw [Bool.eq_iff_iff];simp [insB];omega),rfl⟩
      intro h;refine Zh7 ?_;refine Zef ?_;exact ⟨_,A,res1 rfl rfl,λ _ _ h=>h,congrArg Value.bool (by rw [Bool.eq_iff_iff];simp [insB];omega),rfl⟩
    intro h;refine Zbj ?_;refine Zbo ?_;refine Zh7 ?_;refine Zef ?_;exact ⟨_,A,res1 rfl rfl,λ _ _ h=>h,congrArg Value.bool (by rw [Bool.eq_iff_iff];simp [insB];omega),rfl⟩
  intro h;refine Zp ?_;refine Zbo ?_;refine Zbj ?_;refine Zbo ?_;refine Zh7 ?_;refine Zef ?_;exact ⟨_,A,res1 rfl rfl,λ _ _ h=>h,congrArg Value.bool (by rw [Bool.eq_iff_iff];simp [insB];omega),rfl⟩
theorem Zdy {p r:Prop}(k:r)(h:Kq r->p:=by intro k;refine Zcd ?_;refine q_then_r ?_;exact k.o):p:=h ⟨k⟩
theorem Zh8 {p r:Prop}(k:r)(h:Kq r->p:=by intro k;refine Zb2 ?_;refine Zt ?_;exact k.o):p:=h ⟨k⟩
theorem Range_c {A R:SP}{C:SP->SP}{d:Nat}{s:DevS}(hc:Ct A (Dev d s) R C:=by exact cbqz){p m:Int}(hp: -9223372036854775808<=p/\ p<=9223372036854775807:=by omega)(hm: -9223372036854775808<=m/\ m<=9223372036854775807:=by omega):
    Fn Tryz.prog 270 #[pz d,.int .i64 p,.int .i64 m] A (λ r B=>∃e s2,rangeP p m s=(e,s2)/\ r= .int .i64 e/\ B=C (Dev d s2)):=by
  refine fn_enterW func270 rfl ntmps270 (by simp) ?_;refine tc_have (λ _ _ h=>ct_wf2 hc h) λ hw=> ?_
  obtain ⟨rfl,hC⟩:=hc;have htop:=hw.top;have hpos:=hw.pos;have hAC:∀g w,sat g w (R*Dev d s)->sat g w (C (Dev d s)):=λ g w h=>by rw [hC];exact h
  refine Zcb ?_;refine tl_c rfl (o_call bd287 rfl (alive_c (s:=s))) ?_;refine Zhc ?_;refine tc_cond rfl (sbq ?_) (λ h=> ?_)
  . intro h;refine Zg4 ?_;exact ⟨.int .i64 (stE s),C (Dev d s),res1 rfl rfl,hAC,stE s,s,by have ho:=stE_off h;unfold rangeP stE;rw [if_pos ho,if_pos ho],rfl,rfl⟩
  have ho:s.off=false:=stE_on (by simpa using h);refine Zcr ?_;refine Zx ?_;refine tc_cond rfl (sbq ?_) (sbq ?_)
  . intro h;refine Zdy ?_;exact ⟨.int .i64 0,C (Dev d s),res1 rfl rfl,hAC,0,s,by unfold rangeP;rw [if_neg (by rw [ho];decide),if_pos h],rfl,rfl⟩
  intro h;refine Zcr ?_;refine Zt ?_;refine tl_c rfl (o_call bd306 rfl (inside_c (s:=s) (p:=p) (m:=m))) ?_;refine Zb1 ?_;refine nq ?_;refine tc_cond rfl (sbq ?_) (λ h=> ?_)
  . intro h;refine Zdy ?_;exact ⟨.int .i64 6,C (Dev d s),res1 rfl rfl,hAC,6,s,by unfold rangeP;rw [if_neg (by rw [ho];decide),if_neg oqz,if_pos (λ e=>by rw [insB_rdy.2 e] at h;cases h)],rfl,rfl⟩
  have hr:rdy s.ls.length false p m=0:=insB_rdy.1 (by simpa using h);have hr2:=rdy0 hr;obtain ⟨q,rfl⟩:=Int.eq_ofNat_of_zero_le hr2.2.1;obtain ⟨k,rfl⟩:=Int.eq_ofNat_of_zero_le hr2.2.2.1;refine Zh8 ?_;refine tl_c rfl (o_call bd307 rfl (Rg.last_c (s:=s) (p:=q) (m:=k))) ?_;rintro _ _ ⟨e23,s23,hs23,rfl,rfl⟩;refine Zl ?_;exact ⟨.int .i64 e23,C (Dev d s23),res1 rfl rfl,λ _ _ h=>by rw [hC];exact h,e23,s23,by unfold rangeP;rw [if_neg (by rw [ho];decide),if_neg oqz,if_neg (by simpa using hr)];exact hs23,rfl,rfl⟩
theorem Zg0 {p r:Prop}(k:r)(h:Kq r->p:=by intro k;refine Zz ?_;refine Z5 ?_;exact k.o):p:=h ⟨k⟩
theorem Zfm {p r:Prop}(k:r)(h:Kq r->p:=by intro k;refine Zb2 ?_;refine tlm ?_;exact k.o):p:=h ⟨k⟩
theorem Publish_c {A R:SP}{C:SP->SP}{d:Nat}{s:DevS}(hc:Ct A (Dev d s) R C:=by exact cbqz){v:Nat}{p:Int}(hp: -9223372036854775808<=p/\ p<=9223372036854775807:=by omega)(hv:v<18446744073709551616:=by omega)(hroom:Room 1 s:=by assumption):
    Fn Tryz.prog 271 #[pz d,.int .i64 p,.int .u64 (v:Nat)] A (λ r B=>∃e s2,pubP p v s=(e,s2)/\ r= .int .i64 e/\ B=C (Dev d s2)):=by
  refine fn_enterW func271 rfl ntmps271 (by simp) ?_;refine tc_have (λ _ _ h=>ct_wf2 hc h) λ hw=> ?_
  obtain ⟨rfl,hC⟩:=hc;have htop:=hw.top;have hpos:=hw.pos;have hAC:∀g w,sat g w (R*Dev d s)->sat g w (C (Dev d s)):=λ g w h=>by rw [hC];exact h
  refine Zcb ?_;refine Zt ?_;refine tl_c rfl (o_call bd308 rfl (Store8_c (s:=s) (p:=p) (v:=v))) ?_;rintro _ _ ⟨e11,s11,hs11,rfl,rfl⟩;refine Zg0 ?_;refine tc_cond rfl (sbq ?_) (λ h=> ?_)
  . intro h;refine Zg4 ?_;exact ⟨.int .i64 e11,C (Dev d s11),res1 rfl rfl,λ _ _ h=>by rw [hC];exact h,e11,s11,by unfold pubP;rw [hs11,if_pos (by simpa using h)],rfl,rfl⟩
  obtain rfl:e11=0:=by simpa using h
  have hrd:=rdy0 (st8_rdy (by rw [hs11]));have hsl:=st8_len p v s;rw [hs11] at hsl
  simp only at hsl
  obtain ⟨q,rfl⟩:=Int.eq_ofNat_of_zero_le hrd.2.1;refine Zfm ?_;refine tl_c rfl (o_call bd307 rfl (Rg.last_c (s:=s11) (p:=q) (m:=8))) ?_;rintro _ _ ⟨e17,s17,hs17,rfl,rfl⟩;refine Zl ?_;exact ⟨.int .i64 e17,C (Dev d s17),res1 rfl rfl,λ _ _ h=>by rw [hC];exact h,e17,s17,by unfold pubP;rw [hs11,if_neg (by simp)];exact hs17,rfl,rfl⟩
end Go.Vl

namespace Go.Vl
open Go Go.Proofs Go.Proofs.Tryz
def NoD (A:SP)(v:Value):Prop:=v= .pointer none∨∃b,v=(pz b)/\ Cell A b 0 (.slice none 0 0)
theorem NoD.left {A X:SP}{v:Value}(h:NoD A v):NoD (A*X) v:=h.imp id λ ⟨b,e,hc⟩=>⟨b,e,hc.left⟩
theorem img_lt {s:DevS}:∀x∈imgS s,x<256:=λ x hx=>by
  unfold imgS img at hx
  obtain ⟨l,_,h⟩:=List.mem_flatMap.1 hx
  unfold lb at h
  obtain ⟨v,_,h⟩:=List.mem_flatMap.1 h;exact le_bytes _ _ _ h
theorem imgS_len {s:DevS}(hw:WfD s):(imgS s).length=s.ls.length*64:=img_length hw.line
theorem img_sub {s:DevS}{p n:Nat}:∀x∈((imgS s).drop p).take n,x<256:=λ x hx=>img_lt x (List.mem_of_mem_drop (List.mem_of_mem_take hx))
theorem nm_take0 (xs:List Nat)(n:Nat):nm (((xs.take n).drop 0).take n)=nm (xs.take n):=by rw [List.drop_zero,List.take_take,Nat.min_self]
theorem Put16_c {A:SP}{a:Option Addr}{c m:Nat}{xs:List Nat}{v:Nat}(hr:Rs A a (bys xs):=by exact rbqz)(hm:xs.length=m:=by first|assumption|rfl)(hv:v<65536:=by omega)(hl:m<=1099511627776:=by omega):
    Fn Tryz.prog 232 #[.slice a m c,.int .u16 (v:Nat)] A (λ r B=>∃a' c',r= .slice a' (m+2) c'/\ m+2<=c'/\ B=A*Sl 1 (.slice a' (m+2) c') (m+2) (bys (xs++le 2 v))):=by
  subst hm;exact fn_rs hr λ hr=>fn_sl ((Put16_f A a c xs v hr hv hl).mono λ _ _ ⟨u,e,h⟩=>by rw [e];exact h)
theorem Take16_c {A:SP}{a:Option Addr}{c m:Nat}{xs:List Nat}{p:Nat}(hr:Rs A a (bys xs):=by exact rbqz)(hb:∀x∈xs,x<256:=by assumption)(hm:xs.length=m:=by first|assumption|rfl)(hp:p+2<=m:=by omega)(hl:m<=1099511627776:=by omega):
    Fn Tryz.prog 201 #[.slice a m c,vn p] A (λ r B=>r= .tuple #[.int .u16 ((nm ((xs.drop p).take 2):Nat):Int),.int .i64 0]/\ A=B):=by
  subst hm;exact fn_rs hr λ hr=>Take16_f A a c xs p hb hr hp hl
theorem Put32_c {A:SP}{a:Option Addr}{c m:Nat}{xs:List Nat}{v:Nat}(hr:Rs A a (bys xs):=by exact rbqz)(hm:xs.length=m:=by first|assumption|rfl)(hv:v<4294967296:=by omega)(hl:m<=1099511627776:=by omega):
    Fn Tryz.prog 74 #[.slice a m c,.int .u32 (v:Nat)] A (λ r B=>∃a' c',r= .slice a' (m+4) c'/\ m+4<=c'/\ B=A*Sl 1 (.slice a' (m+4) c') (m+4) (bys (xs++le 4 v))):=by
  subst hm;exact fn_rs hr λ hr=>fn_sl ((Put32_f A a c xs v hr hv hl).mono λ _ _ ⟨u,e,h⟩=>by rw [e];exact h)
theorem Take32_c {A:SP}{a:Option Addr}{c m:Nat}{xs:List Nat}{p:Nat}(hr:Rs A a (bys xs):=by exact rbqz)(hb:∀x∈xs,x<256:=by assumption)(hm:xs.length=m:=by first|assumption|rfl)(hp:p+4<=m:=by omega)(hl:m<=1099511627776:=by omega):
    Fn Tryz.prog 68 #[.slice a m c,vn p] A (λ r B=>r= .tuple #[.int .u32 ((nm ((xs.drop p).take 4):Nat):Int),.int .i64 0]/\ A=B):=by
  subst hm;exact fn_rs hr λ hr=>Take32_f A a c xs p hb hr hp hl
attribute [local irreducible] Sl pt ro Dev imgS
theorem Zfp {p r:Prop}(k:r)(h:Kq r->p:=by intro k;refine tm 1 rfl kqz rfl (o_fieldAddr (o:=0) underlying393 rfl rfl sz3 rfl) ?_;refine tm 2 rfl kqz rfl (by first|exact o_load p3 rfl hsqz rfl|exact o_loadC p3 rfl (by assumption)) ?_;exact k.o):p:=h ⟨k⟩
theorem Zgl {p r:Prop}(k:r)(h:Kq r->p:=by intro k;refine ⟨by repeat (first|with_reducible exact dr_refl|apply dr_keep|apply dr_drop), ?_⟩;refine tm 5 rfl kqz rfl (o_len underlying67 rfl) ?_;exact k.o):p:=h ⟨k⟩
theorem Zgg {p r:Prop}(k:r)(h:Kq r->p:=by intro k;refine tm 10 rfl kqz rfl (o_assign wqz) ?_;refine tm 11 rfl kqz rfl (o_assign wqz) ?_;exact k.o):p:=h ⟨k⟩
theorem FL64_ok {A R:SP}{C:SP->SP}{d:Nat}{s:DevS}(hc:Ct A (Dev d s) R C:=by exact cbqz){p:Nat}(hoff:s.off=false)(hpm:p+8<=s.ls.length*64):
    Fn Tryz.prog 288 #[.agg [Value.int .i64 (p:Nat)].toArray,pz d] A (λ r B=>r= .tuple #[.int .u64 ((nm (((imgS s).drop p).take 8):Nat):Int),.int .i64 0]/\ A=B):=by
  refine fn_enterW func288 rfl ntmps288 (by simp) ?_;refine tc_have (λ _ _ h=>ct_wf2 hc h) λ hw=> ?_
  obtain ⟨rfl,hC⟩:=hc;have htop:=hw.top;have hil:(imgS s).length=s.ls.length*64:=imgS_len hw;have hI:(((imgS s).drop p).take 8).length=8:=(by rw [List.length_take,List.length_drop];omega);have hIb:=img_sub (s:=s) (p:=p) (n:=8);refine Zez ?_;rintro _ _ ⟨b2,rfl,rfl⟩;refine tla ?_;refine Za ?_;refine Zio ?_;refine tc_regh mo dr_refl ?_
  show TH _ _ _ _ _ 12 (Array.replicate 12 false) _ _
  refine tm 0 rfl kqz rfl (o_move wqz) ?_;refine Zfp ?_;refine tm 3 rfl kqz rfl (o_move wqz) ?_;refine th_one (i:=4) kqz ?_;refine oh_c rfl rfl rfl (o_call bd73 rfl (Put64_c (xs:=[]) (v:=0))) ?_;rintro _ _ ⟨a14,c14,rfl,hc14,rfl⟩;refine Zgl ?_;refine th_one (i:=6) kqz ?_;refine oh_c rfl rfl rfl (o_call bd247 rfl (Load_c (s:=s) (p:=p) (m:=8))) ?_;rintro _ _ ⟨a16,c16,rfl,hc16,rfl⟩;refine ⟨by repeat (first|with_reducible exact dr_refl|apply dr_keep|apply dr_drop), ?_⟩;refine tm 7 rfl kqz rfl (o_move wqz) ?_;refine tm 8 rfl kqz rfl (o_extract rfl rfl) ?_;refine tm 9 rfl kqz rfl (o_extract rfl rfl) ?_;refine Zgg ?_;refine Zbv ?_;refine Zm ?_;refine Zbd ?_;intro h;refine Zb2 ?_;refine tl_c rfl (o_call bd67 rfl (Take64_c (xs:=((imgS s).drop p).take 8) (p:=0) (hm:=hI))) ?_;rintro _ _ ⟨rfl,rfl⟩;refine Zn ?_;refine Z6 ?_;exact ⟨.tuple #[.int .u64 ((nm (((imgS s).drop p).take 8):Nat):Int),.int .i64 0],R*Dev d s,res2 rfl (congrArg (λ z:Nat=>Value.int .u64 (z:Int)) (nm_take0 _ _)) rfl,Dr.sat drqz,rfl,rfl⟩
theorem Zce {p r:Prop}(k:r)(h:Kq r->p:=by intro k;refine Z6 ?_;refine q_then_r ?_;exact k.o):p:=h ⟨k⟩
theorem Zhe {p r:Prop}(k:r)(h:Kq r->p:=by intro k;refine Zb ?_;refine Zce ?_;exact k.o):p:=h ⟨k⟩
theorem FL64_no {A R:SP}{C:SP->SP}{d:Nat}{s:DevS}(hc:Ct A (Dev d s) R C:=by exact cbqz){p:Int}(hp: -9223372036854775808<=p/\ p<=9223372036854775807:=by omega)(hno:rdy s.ls.length s.off p 8≠0):
    Fn Tryz.prog 288 #[.agg [Value.int .i64 p].toArray,pz d] A (λ r B=>r= .tuple #[.int .u64 0,.int .i64 (rdy s.ls.length s.off p 8)]/\ A=B):=by
  refine fn_enterW func288 rfl ntmps288 (by simp) ?_;obtain ⟨rfl,hC⟩:=hc;refine Zez ?_;rintro _ _ ⟨b2,rfl,rfl⟩;refine tla ?_;refine Za ?_;refine Zio ?_;refine tc_regh mo dr_refl ?_
  show TH _ _ _ _ _ 12 (Array.replicate 12 false) _ _
  refine tm 0 rfl kqz rfl (o_move wqz) ?_;refine Zfp ?_;refine tm 3 rfl kqz rfl (o_move wqz) ?_;refine th_one (i:=4) kqz ?_;refine oh_c rfl rfl rfl (o_call bd73 rfl (Put64_c (xs:=[]) (v:=0))) ?_;rintro _ _ ⟨a14,c14,rfl,hc14,rfl⟩;refine Zgl ?_;refine th_one (i:=6) kqz ?_;refine oh_c rfl rfl rfl (o_call bd247 rfl (LoadNo_c (s:=s) (p:=p) (m:=8))) ?_;refine Zcp ?_;refine tm 7 rfl kqz rfl (o_move wqz) ?_;refine tm 8 rfl kqz rfl (o_extract rfl rfl) ?_;refine tm 9 rfl kqz rfl (o_extract rfl rfl) ?_;refine Zgg ?_;refine Zbv ?_;refine Zm ?_;refine Z5 ?_;refine tc_cond rfl (sbq ?_) (λ h=> ?_)
  . intro h;refine Zhe ?_;exact ⟨.tuple #[.int .u64 0,.int .i64 (rdy s.ls.length s.off p 8)],R*Dev d s,res2 rfl rfl rfl,Dr.sat drqz,rfl,rfl⟩
  exfalso;exact hno (by simpa using h)
theorem FL64_c {A R:SP}{C:SP->SP}{d:Nat}{s:DevS}(hc:Ct A (Dev d s) R C:=by exact cbqz){p:Int}(hp: -9223372036854775808<=p/\ p<=9223372036854775807:=by omega):Fn Tryz.prog 288 #[.agg [Value.int .i64 p].toArray,pz d] A (λ r B=>r= .tuple #[.int .u64 (((loadP p 8 s).1:Nat):Int),.int .i64 (loadP p 8 s).2]/\ A=B):=by
  by_cases h:rdy s.ls.length s.off p 8=0
  . have h0:=rdy0 h;obtain ⟨q,rfl⟩:=Int.eq_ofNat_of_zero_le h0.2.1;have e:loadP (q:Int) 8 s=(nm (((imgS s).drop q).take 8),0):=(by unfold loadP;rw [if_neg (by simpa using h)];rfl);rw [e];exact FL64_ok hc h0.1 oqz
  have e:loadP p 8 s=(0,rdy s.ls.length s.off p 8):=(by unfold loadP;rw [if_pos (by simpa using h)];rfl);rw [e];exact FL64_no hc hp (by simpa using h)
theorem Zdi {p r:Prop}(k:r)(h:Kq r->p:=by intro k;refine Zcc ?_;refine Zy ?_;exact k.o):p:=h ⟨k⟩
theorem Zhf {p r:Prop}(k:r)(h:Kq r->p:=by intro k;refine sr ?_;refine Zce ?_;exact k.o):p:=h ⟨k⟩
theorem Word_c {A R:SP}{C:SP->SP}{d:Nat}{s:DevS}(hc:Ct A (Dev d s) R C:=by exact cbqz){p:Int}(hp: -9223372036854775808<=p/\ p<=9223372036854775807:=by omega):
    Fn Tryz.prog 246 #[pz d,.int .i64 p] A (λ r B=>r= .tuple #[.int .u64 (((wordP p s).1:Nat):Int),.int .i64 (wordP p s).2]/\ A=B):=by
  refine fn_enterW func246 rfl ntmps246 (by simp) ?_;refine Zdi ?_;refine tl_c rfl (o_call bd287 rfl (alive_c hc)) ?_;refine Zhc ?_;refine tc_cond rfl (sbq ?_) (λ h=> ?_)
  . intro h;refine Zhe ?_;have ho:=stE_off h;have e:wordP p s=(0,5):=(by unfold wordP;rw [if_pos ho]);have e2:stE s=5:=(by unfold stE;rw [if_pos ho]);rw [e]
    exact ⟨.tuple #[.int .u64 0,.int .i64 5],A,res2 rfl rfl (congrArg (Value.int .i64) e2),λ _ _ h=>h,rfl,rfl⟩
  have ho:s.off=false:=stE_on (by simpa using h);refine Zcr ?_;refine tv (o_rem rfl rfl (by decide)) ?_;refine Z5 ?_;refine tc_cond rfl (sbq ?_) (sbq ?_)
  . intro h;refine Zhf ?_;have e:wordP p s=(0,6):=(by unfold wordP;rw [if_neg (by rw [ho];decide),if_pos (λ e=>h (by rw [Int.tmod_eq_zero_of_dvd (Int.dvd_of_emod_eq_zero e)]))]);rw [e]
    exact ⟨.tuple #[.int .u64 0,.int .i64 6],A,res2 rfl rfl rfl,λ _ _ h=>h,rfl,rfl⟩
  intro h;refine Zb2 ?_;refine tv (o_bS (l:=[Value.int .i64 p]) (pv_cons wqz pv_nil) underlying393 z393 (pl393 underlying393) rfl) ?_;refine tlm ?_;refine tl_c rfl (o_call bd288 rfl (FL64_c hc (p:=p))) ?_;rintro _ _ ⟨rfl,rfl⟩;refine Zn ?_;refine Z6 ?_;have e:wordP p s=loadP p 8 s:=(by unfold wordP;rw [if_neg (by rw [ho];decide),if_neg (λ e=>e (Int.emod_eq_zero_of_dvd (Int.dvd_of_tmod_eq_zero (by simpa using h))))]);rw [e]
  exact ⟨_,A,res2 rfl rfl rfl,Dr.sat drqz,rfl,rfl⟩
end Go.Vl

namespace Go.Vl
open Go Go.Proofs Go.Proofs.Tryz
theorem lb_word {s:List Nat}{r:Nat}(h:r<s.length)(t:List Nat):(((lb s++t).drop (8*r)).take 8)=le 8 s[r]:=by
  induction s generalizing r with
  |nil=>simp at h
  |cons x s ih=>
    cases r with
    |zero=>
      show (((le 8 x++lb s)++t).drop 0).take 8=le 8 x
      rw [List.drop_zero,List.append_assoc,List.take_append_of_le_length (by rw [le_length];omega),List.take_of_length_le (by rw [le_length];omega)]
    |succ r=>
      have e:8*(r+1)=(le 8 x).length+8*r:=(by rw [le_length];omega)
      show (((le 8 x++lb s)++t).drop _).take 8=_
      rw [e,List.append_assoc,←List.drop_drop,List.drop_left]
      exact ih (by simpa using h)
theorem seenL_app (l:LineS)(σ:List Nat):seenL { l with st:=l.st++[σ] }=σ:=by
  unfold seenL;simp [List.getD]
theorem spl_in {α:Type}{l b:List α}{q r k:Nat}(h1:r+b.length<=k)(h2:q+k<=l.length):spl l q (spl ((l.drop q).take k) r b)=spl l (q+r) b:=by
  have h3:((l.drop q).take k).length=k:=(by rw [List.length_take,List.length_drop];omega)
  apply List.ext_getElem?
  intro i;rw [spl_at (by rw [spl_length oqz];omega),spl_at oqz,spl_length oqz,h3]
  by_cases h:q<=i/\ i<q+k
  . rw [if_pos h,spl_at oqz]
    by_cases h':r<=i-q/\ i-q<r+b.length
    . rw [if_pos h',if_pos oqz];congr 1;omega
    rw [if_neg h',if_neg oqz,List.getElem?_take,if_pos oqz,List.getElem?_drop];congr 1;omega
  rw [if_neg h,spl_at oqz,if_neg oqz]
theorem spl_app {α:Type}(a l b:List α){n p q:Nat}(ha:a.length=n)(hq:q=n+p):spl (a++l) q b=a++spl l p b:=by
  subst ha hq
  unfold spl
  rw [List.take_length_add_append,Nat.add_assoc,List.drop_length_add_append]
  simp only [List.append_assoc]
theorem spl_head {α:Type}(a l b:List α)(h:a.length=b.length):spl (a++l) 0 b=b++l:=by
  unfold spl
  rw [List.take_zero,List.nil_append,Nat.zero_add,←h,List.drop_left]
theorem lb_set:∀{s:List Nat} {k v:Nat},k<s.length->lb (s.set k v)=spl (lb s) (8*k) (le 8 v)
  |x::s,0,v,_=>(spl_head (le 8 x) (lb s) (le 8 v) (by rw [le_length,le_length])).symm
  |x::s,k+1,v,h=>by
    have ih:=lb_set (s:=s) (k:=k) (v:=v) (by simpa using h)
    show le 8 x++lb (s.set k v)=_
    rw [ih]
    exact (spl_app (le 8 x) (lb s) (le 8 v) (le_length 8 x) oqz).symm
theorem img_set:∀{ls:List LineS} {i:Nat} {l:LineS} (_:∀l∈ls,WfL l) (_:i<ls.length) (_:(lb (seenL l)).length=64),img (ls.set i l)=spl (img ls) (i*64) (lb (seenL l))
  |l0::ls,0,l,h,_,h8=>by
    have h0:=seen8 (h l0 (by simp));exact (by rw [Nat.zero_mul];exact (spl_head (lb (seenL l0)) (img ls) (lb (seenL l)) (by rw [h0,h8])).symm)
  |l0::ls,i+1,l,h,hi,h8=>by
    have h0:=seen8 (h l0 (by simp));have ih:=img_set (i:=i) (l:=l) (λ x hx=>h x (List.mem_cons_of_mem _ hx)) (by simpa using hi) h8
    show lb (seenL l0)++img (ls.set i l)=_
    rw [ih]
    exact (spl_app (lb (seenL l0)) (img ls) (lb (seenL l)) h0 oqz).symm
theorem img_lay {s:DevS}{q v:Nat}(hw:WfD s)(hq:q%8=0)(hi:q/64<s.ls.length)(hv:v<18446744073709551616)(hr:Room 1 s):imgS (layS q v s)=spl (imgS s) q (le 8 v):=by
  have hwl:=hw.line _ (List.getElem_mem hi);have h8:=hwl.eight _ (seenL_mem hwl);have hl:=img_length hw.line;have hs8:=seen8 hwl;have e1:(layS q v s).ls=s.ls.set (q/64) (layL (q%64/8) v s.ls[q/64]):=(by unfold layS;rw [onLine_at hi]);have e2:seenL (layL (q%64/8) v s.ls[q/64])=(seenL s.ls[q/64]).set (q%64/8) v:=(by unfold layL;rw [seenL_app])
  have e3:lb ((seenL s.ls[q/64]).set (q%64/8) v)=spl (lb (seenL s.ls[q/64])) (q%64) (le 8 v):=by
    rw [lb_set oqz];congr 1;omega
  have e4:((imgS s).drop (q/64*64)).take 64=lb (seenL s.ls[q/64]):=(by unfold imgS;rw [img_at hw.line hi,List.take_append_of_le_length oqz,List.take_of_length_le oqz])
  unfold imgS at e4 ⊢
  rw [e1,img_set hw.line hi (by rw [e2,e3,spl_length (by rw [le_length];omega),hs8]),e2,e3,←e4,spl_in (by rw [le_length];omega) oqz]
  congr 1;omega
theorem word_at {s:DevS}{p:Nat}(hw:WfD s)(hi:p/64<s.ls.length):le 8 ((seenL (s.ls.getD (p/64) zline)).getD (p%64/8) 0)=((imgS s).drop (p-p%8)).take 8:=by
  have hwl:=hw.line _ (List.getElem_mem hi);have h8:=hwl.eight _ (seenL_mem hwl);have hs8:=seen8 hwl;have hc:=img_chunk (q:=p-p%8) (c:=8) hw.line (by rw [show (p-p%8)/64=p/64 by omega];exact hi) oqz
  unfold imgS
  rw [←hc,seenL_getD hi]
  have e:(p-p%8)/64=p/64:=(by omega)
  simp only [e]
  have h2:=lb_word (s:=seenL s.ls[p/64]) (r:=p%64/8) oqz [];rw [List.append_nil] at h2
  have e2:(p-p%8)%64=8*(p%64/8):=(by omega);rw [e2,h2]
  congr 1
  simp [List.getD,show p%64/8<(seenL s.ls[p/64]).length by omega]
theorem img_stW {s:DevS}{p:Nat}{b:List Nat}(hw:WfD s)(hi:p/64<s.ls.length)(hb:∀x∈b,x<256)(hr:Room 1 s):imgS (layS (p-p%8) (nm (stW p b s)) s)=spl (imgS s) p (b.take (8-p%8)):=by
  have hl:=img_length hw.line;have e8:le 8 (nm (stW p b s))=stW p b s:=(by have:=le_nm _ (stW_bytes (p:=p) (s:=s) hb);rw [stW_len] at this;exact this);rw [img_lay hw oqz (by rw [show (p-p%8)/64=p/64 by omega];exact hi) (stW_nm hb) hr,e8]
  unfold stW
  rw [word_at hw hi,spl_in (by rw [List.length_take];omega) (by unfold imgS;omega)]
  congr 1;omega
def cw (p m:Nat):Nat:=if m=0 then 0 else (p+m-1)/8-p/8+1
theorem spl_nil {α:Type}(l:List α)(p:Nat):spl l p []=l:=by simp [spl]
def im (n:Nat):List Nat:=(List.range n).map λ i=>(i+1)%256
theorem lineF_lb {xs:List Nat}(hb:∀x∈xs,x<256){i:Nat}(hi:i*64+64<=xs.length):lb (seenL (lineF xs i))=(xs.drop (i*64)).take 64:=by
  have e:seenL (lineF xs i)=(List.replicate 8 0).mapIdx λ k _=>wordF xs i k:=(by simp [seenL,lineF])
  rw [e]
  have key:∀k,k<=8->lb (((List.replicate 8 0).mapIdx λ k _=>wordF xs i k).take k)=(xs.drop (i*64)).take (k*8):=by
    intro k
    induction k with
    |zero=>intro _;simp [lb]
    |succ k ih=>
      intro hk;rw [lb_take (by simp;omega),ih oqz]
      simp only [List.getElem_mapIdx,wordF]
      have h1:=le_nm ((xs.drop (i*64+k*8)).take 8) (λ x hx=>hb x (List.mem_of_mem_drop (List.mem_of_mem_take hx)));rw [List.length_take,List.length_drop,Nat.min_eq_left oqz] at h1
      rw [h1,show (k+1)*8=k*8+8 by omega,List.take_add,List.drop_drop]
  have:=key 8 oqz
  rwa [List.take_of_length_le (by simp)] at this
theorem img_from {n:Nat}{xs:List Nat}(hb:∀x∈xs,x<256)(hl:xs.length=n*64):imgS (fromS n xs)=xs:=by
  have e:imgS (fromS n xs)=((List.range n).map λ i=>(xs.drop (i*64)).take 64).flatten:=by
    unfold imgS img fromS
    rw [List.flatMap_def]
    congr 1
    apply List.ext_getElem
    . simp [newS]
    intro j h1 h2
    simp only [List.length_map,List.length_mapIdx,List.length_range] at h1 h2
    simp only [List.getElem_map,List.getElem_mapIdx,List.getElem_range]
    exact lineF_lb hb oqz
  rw [e]
  have key:∀k,k<=n->((List.range k).map λ i=>(xs.drop (i*64)).take 64).flatten=xs.take (k*64):=by
    intro k
    induction k with
    |zero=>intro _;simp
    |succ k ih=>
      intro hk;rw [List.range_succ,List.map_append,List.flatten_append,ih oqz]
      simp only [List.map_cons,List.map_nil,List.flatten_cons,List.flatten_nil,List.append_nil]
      rw [show (k+1)*64=k*64+64 by omega,List.take_add]
  rw [key n (Nat.le_refl _),←hl,List.take_length]
theorem spl_mid {l b:List Nat}{p:Nat}(h:p+b.length<=l.length):((spl l p b).drop p).take b.length=b:=by
  apply List.ext_getElem?
  intro i;rw [List.getElem?_take]
  split
  . rw [List.getElem?_drop,spl_at h,if_pos oqz];congr 1;omega
  rw [List.getElem?_eq_none oqz]
def Ag (at_:Nat)(c:List Nat)(s:DevS):Prop:=∀x,x<c.length->∀l,s.ls[(at_+x)/64]? =some l->∀σ∈l.st,(lb σ)[(at_+x)%64]? =c[x]?
def AgI (at_:Nat)(c:List Nat)(I:List Nat):Prop:=∀x,x<c.length->I[at_+x]? =c[x]?
theorem layS_ls {q v:Nat}{s:DevS}(hi:q/64<s.ls.length):(layS q v s).ls=s.ls.set (q/64) (layL (q%64/8) v s.ls[q/64]):=by unfold layS;rw [onLine_at hi]
theorem img_seen {ls ls':List LineS}(h:ls'.map seenL=ls.map seenL):img ls'=img ls:=by
  have e:∀l:List LineS,img l=(l.map seenL).flatMap lb:=λ l=>by unfold img;rw [List.flatMap_map]
  rw [e,e,h]
theorem seen_fence {l:LineS}(h:WfL l):seenL (fenceL l)=seenL l:=by
  unfold fenceL
  split
  . have h1:=h.hi;have h2:=List.length_pos_iff.2 h.ne;rw [seenL_eq h2,seenL_eq (by simp;omega)]
    simp only [List.getElem_drop,List.length_drop]
    congr 1;omega
  rfl
theorem fence_mem {l:LineS}:∀σ∈(fenceL l).st,σ∈l.st:=λ σ h=>by
  unfold fenceL at h
  split at h
  . exact List.mem_of_mem_drop h
  exact h
def flsh (k q:Nat)(ls:List LineS):List LineS:=ls.mapIdx λ i l=>if q<=i/\ i<q+k then flushL l else l
theorem flsh_len (k q:Nat)(ls:List LineS):(flsh k q ls).length=ls.length:=by simp [flsh]
theorem flsh_zero (q:Nat)(ls:List LineS):flsh 0 q ls=ls:=by
  apply List.ext_getElem?
  intro j
  simp only [flsh,List.getElem?_mapIdx]
  cases ls[j]? with
  |none=>rfl
  |some l=>simp only [Option.map_some];rw [if_neg oqz]
theorem flsh_step {k q:Nat}{ls:List LineS}(h:q<ls.length):flsh k (q+1) (ls.set q (flushL ls[q]))=flsh (k+1) q ls:=by
  apply List.ext_getElem?
  intro j
  simp only [flsh,List.getElem?_mapIdx]
  by_cases e:q=j
  . subst e;rw [List.getElem?_set_self h,List.getElem?_eq_getElem h]
    simp only [Option.map_some];rw [if_neg oqz,if_pos oqz]
  rw [List.getElem?_set_ne e]
  cases ls[j]? with
  |none=>rfl
  |some l=>
    simp only [Option.map_some]
    by_cases h2:q+1<=j/\ j<q+1+k
    . rw [if_pos h2,if_pos oqz]
    rw [if_neg h2,if_neg oqz]
theorem flsh_seen (k q:Nat)(ls:List LineS):(flsh k q ls).map seenL=ls.map seenL:=by
  apply List.ext_getElem?
  intro j
  simp only [flsh,List.getElem?_map,List.getElem?_mapIdx]
  cases ls[j]? with
  |none=>rfl
  |some l=>simp only [Option.map_some];split<;>rfl
theorem flsh_get {k q j:Nat}{ls:List LineS}{l':LineS}(h:(flsh k q ls)[j]? =some l'):∃l,ls[j]? =some l/\ l'=if q<=j/\ j<q+k then flushL l else l:=by
  simp only [flsh,List.getElem?_mapIdx] at h
  cases e:ls[j]? with
  |none=>rw [e] at h;cases h
  |some l=>rw [e] at h;exact ⟨l,rfl,(Option.some.inj h).symm⟩
theorem flsh_wf {k q:Nat}{ls:List LineS}(h:∀l∈ls,WfL l):∀l∈flsh k q ls,WfL l:=λ l hl=>by
  obtain ⟨j,hj,rfl⟩:=List.mem_iff_getElem.1 hl;obtain ⟨l0,h1,h2⟩:=flsh_get (List.getElem?_eq_getElem hj);rw [h2]
  split
  . exact flushL_wf (h l0 (List.mem_of_getElem? h1))
  exact h l0 (List.mem_of_getElem? h1)
theorem fence_get {ls:List LineS}{j:Nat}{l':LineS}(h:(ls.map fenceL)[j]? =some l'):∃l,ls[j]? =some l/\ l'=fenceL l:=by
  rw [List.getElem?_map] at h
  cases e:ls[j]? with
  |none=>rw [e] at h;cases h
  |some l=>rw [e] at h;exact ⟨l,rfl,(Option.some.inj h).symm⟩
end Go.Vl

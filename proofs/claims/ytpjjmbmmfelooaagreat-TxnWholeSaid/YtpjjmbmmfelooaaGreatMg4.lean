/- What the row rests on, part 4: a calculus of assertions, walks of functions over it, and plain laws. Conditions: none. -/
import Derived.Deep.QuietTactic
import Derived.BigQuiet
import Derived.WalkKit
import Derived.Test.YtpjjmbmmfelooaaGreatProg
import Derived.OrdersHeld
import Derived.Laws.BytesArg
import Derived.RangeFuncRecord
import Derived.TacticsIn
import Derived.Deep.Slices
import Derived.OpenShut
import Derived.ChangeArms
import Derived.SizedLaws
import Derived.ChangeSame
import Derived.Test.YtpjjmbmmfelooaaGreatRows
import Derived.Sort.QuietThIn
import Derived.Maps.RangeRun
import Derived.ScopeJumps
import Derived.Shelf.SortM.SortNone
import Derived.Shelf.SortM.Plain
import Derived.Ground.SlgmProg
import Derived.Shelf.SlIterI.Nil
import Derived.Ground.GgzProg
import Derived.LaidEqlPtr
import Derived.Lib.Builder
import Derived.Lib.UnsafeStr
import Derived.Laws.Strings
import Derived.Test.YtpjjmbmmfelooaaGreatMg3
set_option linter.unusedVariables false
set_option linter.unusedSimpArgs false
set_option maxRecDepth 100000
set_option maxHeartbeats 4000000
namespace Go.Vl
open Go Go.Proofs Go.Proofs.Tryz
theorem sq3z {p:Prop}(h:p:=by repeat (first|with_reducible exact rs_sl|apply Rs.left)):p:=h
def adjB (out:List (Nat×List Nat))(a:Nat):Bool:=match out.getLast? with
  |some r=>decide (r.1+r.2.length=a)
  |none=>false
theorem list_snoc {α:Type}{l:List α}(h:0<l.length):∃O r,l=O++[r]:=⟨l.dropLast,l.getLast (List.length_pos_iff.1 h),(List.dropLast_concat_getLast _).symm⟩
theorem adjB_snoc (O:List (Nat×List Nat))(r:Nat×List Nat)(a:Nat):adjB (O++[r]) a=decide (r.1+r.2.length=a):=by unfold adjB;rw [List.getLast?_concat]
theorem adj_t {f:TF}{out:List (Nat×List Nat)}{a:Nat}(h:adjB out a=true):∃O r,out=O++[r]/\ r.1+r.2.length=a/\ runA f out a=O++[(r.1,r.2++[byF f a])]:=by
  rcases Nat.eq_zero_or_pos out.length with h0|h0
  . rw [List.eq_nil_of_length_eq_zero h0] at h;cases h
  obtain ⟨O,r,rfl⟩:=list_snoc h0;rw [adjB_snoc] at h
  have h1:=of_decide_eq_true h;refine ⟨O,r,rfl,h1, ?_⟩
  unfold runA;rw [List.getLast?_concat];simp only [];rw [if_pos h1,List.dropLast_concat]
theorem adj_f {f:TF}{out:List (Nat×List Nat)}{a:Nat}(h:adjB out a=false):runA f out a=out++[(a,[byF f a])]:=by
  rcases Nat.eq_zero_or_pos out.length with h0|h0
  . rw [List.eq_nil_of_length_eq_zero h0];rfl
  obtain ⟨O,r,rfl⟩:=list_snoc h0;rw [adjB_snoc] at h
  unfold runA;rw [List.getLast?_concat];simp only [];rw [if_neg (of_decide_eq_false h)]
theorem adr_at {n:Nat}{k:Bool}{f:TF}{i:Nat}(h:i<(adrF n k f).length):∃c,f ((adrF n k f)[i])=some c/\ c.2=k/\ (adrF n k f)[i]<n:=by
  obtain ⟨h1,h2⟩:=adr_mem.1 (List.getElem_mem h);have h3:=of_decide_eq_true h2
  cases hf:f ((adrF n k f)[i]) with
  |none=>rw [hf] at h3;cases h3
  |some c=>rw [hf] at h3;simp only [Option.map_some,Option.some.injEq] at h3;exact ⟨c,rfl,h3,h1⟩
theorem sl_some {k:Nat}{a:Option Addr}{m c:Nat}{xs:List Value}{R:SP}{g:Gh}{w:World}(hs:sat g w (R*Sl k (.slice a m c) m xs))(h:0<m):∃b o,a=some ⟨b,o,none⟩:=by
  obtain ⟨_,⟨e1,e2,_⟩|⟨b,off,cap,L,E,e1,_⟩⟩:=sl_iff.1 hs
  . omega
  simp only [Value.slice.injEq] at e1;exact ⟨b,off,e1.1⟩
theorem adr_len (n:Nat)(k:Bool)(f:TF):(adrF n k f).length<=n:=by unfold adrF;exact Nat.le_trans (List.length_filter_le _ _) (by rw [List.length_range];exact Nat.le_refl _)
theorem parts_last {O:List (Nat×List Nat)}{r:Nat×List Nat}{vs:List Value}(h:vs.length=(O++[r]).length)(hps:∀k,k<(O++[r]).length->∃b c,vs.getD k (.slice none 0 0)= .slice b ((O++[r]).getD k (0,[])).2.length c/\ ((O++[r]).getD k (0,[])).2.length<=c):
    ∃V xb xc,vs=V++[.slice xb r.2.length xc]/\ V.length=O.length/\ r.2.length<=xc:=by
  rw [List.length_append,List.length_singleton] at h
  obtain ⟨V,v,rfl⟩:=list_snoc (l:=vs) oqz;rw [List.length_append,List.length_singleton] at h
  have hV:V.length=O.length:=(by omega);obtain ⟨b,c,h1,h2⟩:=hps O.length (by rw [List.length_append,List.length_singleton];omega);have e1:(V++[v]).getD O.length (.slice none 0 0)=v:=(by rw [←hV,List.getD_eq_getElem?_getD];simp);have e2:(O++[r]).getD O.length (0,[])=r:=(by rw [List.getD_eq_getElem?_getD];simp);rw [e1,e2] at h1
  rw [e2] at h2
  exact ⟨V,b,c,by rw [h1],hV,h2⟩
theorem kcl_set {O:List (Nat×List Nat)}{V:List Value}{r:Nat×List Nat}{v u:Value}(h:V.length=O.length)(ys:List Nat):(kcl (O++[r]) (V++[v])).set (O.length*2+1) u=kcl (O++[(r.1,ys)]) (V++[u]):=by
  rw [kcl_snoc h,kcl_snoc h]
  have hl:=kcl_len h;rw [List.set_append,if_neg oqz,hl,show O.length*2+1-O.length*2=1 by omega];rfl
theorem runs_next {n:Nat}{k:Bool}{f:TF}{i:Nat}{out:List (Nat×List Nat)}(h:runsL f ((adrF n k f).take i)=out)(hi:i<(adrF n k f).length):runsL f ((adrF n k f).take (i+1))=runA f out ((adrF n k f)[i]):=by
  rw [List.take_succ_eq_append_getElem hi,runsL_snoc,h]
theorem kcl_l1 {O:List (Nat×List Nat)}{V:List Value}{r:Nat×List Nat}{v:Value}(h:V.length=O.length):(kcl (O++[r]) (V++[v]))[O.length*2+1]? =some v:=by
  rw [kcl_snoc h,List.getElem?_append_right (by rw [kcl_len h];omega),kcl_len h,show O.length*2+1-O.length*2=1 by omega];rfl
theorem kcl_l0 {O:List (Nat×List Nat)}{V:List Value}{r:Nat×List Nat}{v:Value}(h:V.length=O.length):(kcl (O++[r]) (V++[v]))[O.length*2+0]? =some ((vn r.1)):=by
  rw [kcl_snoc h,List.getElem?_append_right (by rw [kcl_len h];omega),kcl_len h,show O.length*2+0-O.length*2=0 by omega];rfl
theorem byF_some {f:TF}{a:Nat}{c:Nat×Bool}(h:f a=some c):byF f a=c.1:=by unfold byF;rw [h];rfl
theorem isK_some {f:TF}{a:Nat}{c:Nat×Bool}(h:f a=some c)(k:Bool):isK f k a=(c.2==k):=by
  unfold isK;rw [h];simp only [Option.map_some,Option.some.injEq]
  cases c.2<;>cases k<;>rfl
attribute [local irreducible] crk crL crc Sl pt ro Dev imgS recS readS recsF rdW rdO rkT Parts rvl recordsS runsL adrF kcl kys runA
theorem Zfe {p r:Prop}(k:r)(h:Kq r->p:=by intro k;refine ql_v rfl (o_pick_t rfl wqz) ?_;refine ql_nil ?_;exact k.o):p:=h ⟨k⟩
theorem runs12_c {A:SP}{p t mb n:Nat}{over:Bool}{M:MS}{f:TF}{kd:Bool}(ht:Has A t (cl (txcs p mb over) 113):=by exact hbqz)(hmb:Has A mb (mpo .i64 M):=by exact hbqz)(hM:MF M n f)(hn:n<=4194304:=by omega):
    Fn Tryz.prog 96 #[pz t,.bool kd] A (λ r B=>∃a c vs,r= .slice a (runsF n kd f).length c/\ (runsF n kd f).length<=c/\ vs.length=(runsF n kd f).length/\ B=A*Parts vs ((runsF n kd f).map (·.2))*Sl 2 (.slice a (runsF n kd f).length c) (runsF n kd f).length (kcl (runsF n kd f) vs)):=by
  refine fn_enterW func96 rfl ntmps96 (by simp) ?_;have hDl:M.D.length<=n:=mf_len hM;have hal:=adr_len n kd f;refine Zy ?_;refine Zcl ?_;refine Zbk ?_;refine tv (o_load p111 rfl ht rfl) ?_;refine tl_x rfl (o_range (ik:= .i64) underlying111 rfl hmb) ?_;rintro _ _ ⟨r16,rfl,rfl⟩;refine nq ?_;refine tc_block ?_;refine tc_pre (A':=A*pt r16 (mit mb M.c (([]:List ME).map ME.b) M.c)*Sl 1 (.slice none 0 0) 0 []) (λ _ _ h=>sl_nil h) ?_;refine tc_loop (λ kk ρ BB=>∃ (vis:List ME) (a5:Option Addr) (c5:Nat),(Vis M vis)/\ ((kys f kd vis).length<=c5)/\ kk=M.D.length-vis.length/\ ρ 5= .slice a5 (kys f kd vis).length c5/\ ρ 0=(pz t)/\ ρ 1= .bool kd/\ ρ 16=(pz r16)/\ Dr BB (A*pt r16 (mit mb M.c (vis.map ME.b) M.c)*Sl 1 (.slice a5 (kys f kd vis).length c5) (kys f kd vis).length (ints (kys f kd vis)))) (m:=M.D.length-(([]:List ME)).length) ?_ ?_
  . exact ⟨([]:List ME),none,0,vis_nil M,by rw [kys_nil];exact Nat.le_refl _,rfl,by rw [kys_nil];rfl,rfl,rfl,rfl,by rw [kys_nil];exact dr_refl⟩
  intro k ρ B hI;obtain ⟨vis,a5,c5,hp0,hp1,hkk1,hE5,hE0,hE1,hE16,hBA⟩:=hI;refine tc_pre hBA.sat ?_;clear hBA;refine te 5 hE5 ?_;refine te 0 hE0 ?_;refine te 1 hE1 ?_;refine te 16 hE16 ?_;refine sr ?_;refine tl_x rfl (o_next (ik:= .i64) (M:=M) (b:=mb) (seen:=vis.map ME.b) hM.wf rfl ctqz haqz) ?_;rintro _ _ ⟨o17,hnx,rfl,rfl⟩;refine tv (o_exNx rfl) ?_;refine Zfr ?_;refine tc_cond rfl (λ h=> ?_) (λ h=> ?_)
  . obtain ⟨e,rfl⟩:∃e,o17=some e:=Option.isSome_iff_exists.1 (by simpa using h);have hvs2:=vis_snoc hp0 hnx;have hvl:=vis_len hvs2;have hvl2:(vis++[e]).length=vis.length+1:=(by rw [List.length_append,List.length_singleton]);have hem:=(hnx.yes e rfl).1;obtain ⟨a,c0,ha,hk,hf,hv⟩:=mf_val hM hem;have hky:=kys_snoc f kd vis e;rw [hk,Int.toNat_natCast,isK_some hf] at hky
    have hkl:=kys_len f kd vis;refine tc_eq (show _=A*pt r16 (mit mb M.c (vis.map ME.b++[e.b]) M.c)*Sl 1 (.slice a5 (kys f kd vis).length c5) (kys f kd vis).length (ints (kys f kd vis)) from rfl) ?_;refine Zc ?_;refine tc_block ?_;refine sr ?_;refine tv (o_entry (ik:= .i64) (M:=M) (b:=mb) (seen:=vis.map ME.b) hM.wf hem rfl (by repeat (first|with_reducible exact has_here|apply has_left)) haqz) ?_;refine tl_env (d:=19) (v:= .tuple #[vn a,.agg (cel0 c0).toArray]) (by rw [hk,hv];rfl) ?_;refine Zl ?_;refine tl_x rfl (o_alloc z185 rfl) ?_;rintro _ _ ⟨b7,rfl,rfl⟩;refine tla ?_;refine tl_u rfl (o_stUN (l':=cel0 c0) rfl upqz sz185 rfl rfl rfl (by show 2<=2;decide) rfl) ?_;refine nq ?_;refine sr ?_;refine tv (o_fieldAddr (o:=1) underlying185 rfl rfl sz4 rfl) ?_;refine tv (o_load p4 rfl hsqz rfl) ?_;refine tlm ?_;refine tv (o_eqb underlying4 rfl rfl) ?_;refine tl_env (d:=25) (v:= .bool (c0.2==kd)) (by first|rfl|(cases c0.2<;>cases kd<;>rfl)) ?_;refine nq ?_;refine tc_cut (λ ρ BB=>∃ (aj:Option Addr) (cj:Nat),((kys f kd (vis++[e])).length<=cj)/\ ρ 5= .slice aj (kys f kd (vis++[e])).length cj/\ ρ 0=(pz t)/\ ρ 1= .bool kd/\ ρ 16=(pz r16)/\ Dr BB (A*pt r16 (mit mb M.c (vis.map ME.b++[e.b]) M.c)*Sl 1 (.slice aj (kys f kd (vis++[e])).length cj) (kys f kd (vis++[e])).length (ints (kys f kd (vis++[e]))))) ?_ ?_
    . skip
      refine tc_cond rfl (λ h=> ?_) (λ h=> ?_)
      . rw [if_pos h] at hky
        refine Zcg ?_;refine tl_x rfl (o_buildSlice1 underlying26 sz3 z3 wqz rfl) ?_;rintro _ _ ⟨b28,rfl,rfl⟩;refine tl_x rfl (o_apB underlying26 underlying26 sz3 by3 z3 rfl (by decide) (by decide) rfl rfl rfl ctqz rfl (by first|exact bys_all _|exact ints_all _|exact wds_all _|exact bos_all _|rfl) sq0z (by first|exact bys_sn _ _|exact ints_sn _ _|exact wds_sn _ _|exact bos_sn _ _|exact (bys_append _ _).symm|rfl)) ?_;rintro _ _ ⟨a29,c29,rfl,hc29,rfl⟩;refine Zdk ?_;exact ⟨a29,c29,by rw [hky];first|exact hp1|(rw [List.length_append];exact hc29),by rw [hky];first|rfl|(rw [List.length_append];rfl),rfl,rfl,rfl,by first|(rw [hky,List.length_append,List.length_singleton];exact dr_drop dr_refl)|(rw [hky];exact dr_drop dr_refl)⟩
      rw [if_neg (by rw [h];decide),List.append_nil] at hky
      refine tc_skip ?_;exact ⟨a5,c5,by rw [hky];first|exact hp1|(rw [List.length_append];exact hc29),by rw [hky];first|rfl|(rw [List.length_append];rfl),rfl,rfl,rfl,by first|(rw [hky,List.length_append,List.length_singleton];exact dr_drop dr_refl)|(rw [hky];exact dr_drop dr_refl)⟩
    intro ρ B hI;obtain ⟨aj,cj,hj0,hE5,hE0,hE1,hE16,hBA⟩:=hI;refine q_block_n (q_then_n ?_);exact ⟨_,by omega,vis++[e],aj,cj,hvs2,hj0,rfl,hE5,hE0,hE1,hE16,by rw [show (vis++[e]).map ME.b=vis.map ME.b++[e.b] by rw [List.map_append];rfl];exact hBA⟩
  obtain rfl:o17=none:=by cases o17<;>simp at h ⊢
  have hvp:=vis_perm hM.wf hp0 hnx;have hks:=kys_sort (k:=kd) hM hvp;have hkl:=kys_len f kd vis;have hvl:=vis_len hp0;have hkn:(kys f kd vis).length=(adrF n kd f).length:=(by have h9:=congrArg List.length hks;rw [List.length_mergeSort,List.length_map] at h9;exact h9);refine Zde ?_;refine tl_c rfl (o_call bd158 rfl (Sort_c (zs:=kys f kd vis))) ?_;rintro _ _ ⟨rfl,rfl⟩;rw [hks]
  refine nq ?_;refine Zcl ?_;refine tv (o_len underlying26 rfl) ?_;refine Zcn ?_;refine tc_pre (A':=A*Sl 1 (.slice a5 (kys f kd vis).length c5) (kys f kd vis).length (ints ((adrF n kd f).map λ a:Nat=>(a:Int)))*Parts [] []*Sl 2 (.slice none 0 0) 0 []) (λ g w h=>sl_nil (show sat g w (A*Sl 1 (.slice a5 (kys f kd vis).length c5) (kys f kd vis).length (ints ((adrF n kd f).map λ a:Nat=>(a:Int)))*Parts [] []) by rw [show Parts [] []=emp by unfold Parts;rfl,star_emp];exact Dr.sat drqz g w h)) ?_;refine tc_loop (λ kk ρ BB=>∃ (i:Nat) (out:List (Nat×List Nat)) (vs:List Value) (a8:Option Addr) (c8:Nat),(i<=(adrF n kd f).length)/\ (runsL f ((adrF n kd f).take i)=out)/\ (vs.length=out.length)/\ (out.length<=c8)/\ (out.length<=i)/\ (∀r∈out,r.1+r.2.length<=n)/\ kk=(adrF n kd f).length-i/\ ρ 8= .slice a8 out.length c8/\ ρ 34=(vn i)/\ ρ 0=(pz t)/\ ρ 32= .slice a5 (kys f kd vis).length c5/\ ρ 33= .int .i64 ((kys f kd vis).length:Nat)/\ Dr BB (A*Sl 1 (.slice a5 (kys f kd vis).length c5) (kys f kd vis).length (ints ((adrF n kd f).map λ a:Nat=>(a:Int)))*Parts vs (out.map (·.2))*Sl 2 (.slice a8 out.length c8) out.length (kcl out vs))) (m:=(adrF n kd f).length-(0)) ?_ ?_
  . exact ⟨0,[],[],none,0,by omega,by rw [List.take_zero];unfold runsL;rfl,rfl,Nat.le_refl _,Nat.le_refl _,λ r h=>(by cases h),rfl,rfl,rfl,rfl,rfl,rfl,by rw [kcl_nil];exact dr_refl⟩
  intro k ρ B hI;obtain ⟨i,out,vs,a8,c8,hq0,hq1,hq2,hq3,hq4,hq5,hkk2,hE8,hE34,hE0,hE32,hE33,hBA⟩:=hI;refine tc_pre hBA.sat ?_;clear hBA;refine te 8 hE8 ?_;refine te 34 hE34 ?_;refine te 0 hE0 ?_;refine te 32 hE32 ?_;refine te 33 hE33 ?_;refine Zcf ?_;refine tc_cond rfl (λ h=> ?_) (λ h=> ?_)
  . have hi:i<(adrF n kd f).length:=(by simp at h;omega);obtain ⟨c0,hf,hck,han⟩:=adr_at hi;obtain ⟨a,haq⟩:∃a,(adrF n kd f)[i]=a:=⟨_,rfl⟩;have hbya:=byF_some hf;have hget:=hM.get ((adrF n kd f)[i]);rw [hf] at hget
    refine tc_have (λ _ _ h=>parts_getD hq2 h.left) λ hps=> ?_
    refine Zed ?_;refine tv (o_ixP1 underlying26 sz3 rfl rfl oqz (nn_rs (xs:=ints ((adrF n kd f).map λ a:Nat=>(a:Int))) sq3z (by rw [ints_length,List.length_map];omega))) ?_;refine tv (o_ldP (xs:=ints ((adrF n kd f).map λ a:Nat=>(a:Int))) p3 rfl sq3z (ints_at (by rw [List.length_map];exact hi))) ?_;refine tl_env (d:=37) (v:= .int .i64 ((((adrF n kd f)[i]'oqz):Nat):Int)) (by show Value.int .i64 _=_;rw [List.getElem_map]) ?_;refine Zbe ?_;refine tv (o_len underlying169 rfl) ?_;refine tv (o_subI rfl rfl oqz) ?_;refine Za ?_;refine tc_seq ?_;refine tc_cut (λ ρ BB=>∃ (bb:Bool),(bb=adjB out ((adrF n kd f)[i]'oqz))/\ ρ 58= .bool bb/\ ρ 0=(pz t)/\ ρ 8= .slice a8 out.length c8/\ ρ 10= .int .i64 ((((adrF n kd f)[i]'oqz):Nat):Int)/\ ρ 11= .int .i64 ((out.length:Int)-1)/\ ρ 32= .slice a5 (kys f kd vis).length c5/\ ρ 33= .int .i64 ((kys f kd vis).length:Nat)/\ ρ 34=(vn i)/\ Dr BB (A*Sl 1 (.slice a5 (kys f kd vis).length c5) (kys f kd vis).length (ints ((adrF n kd f).map λ a:Nat=>(a:Int)))*Parts vs (out.map (·.2))*Sl 2 (.slice a8 out.length c8) out.length (kcl out vs))) ?_ ?_
    . skip
      refine tc_regq mo kqz ?_;refine ql_v rfl (o_move wqz) ?_;refine ql_v rfl (o_geq rfl rfl) ?_;refine ql_v rfl (o_move wqz) ?_;refine ql_bool (d:=43) rfl (λ h=> ?_) (λ h=> ?_)
      . have hne:0<out.length:=(by simp at h;omega);obtain ⟨O,r_,hO⟩:=list_snoc hne;obtain ⟨V,xb,xc,hV,hVl,hxc⟩:=parts_last (O:=O) (r:=r_) (by rw [←hO];exact hq2) (by rw [←hO];exact hps);have hOl:out.length-1=O.length:=(by rw [hO,List.length_append,List.length_singleton];omega);have hrn:=hq5 r_ (by rw [hO];simp);have hk0:(kcl out vs)[(out.length-1)*2+0]? =some ((vn r_.1)):=(by rw [hOl,hO,hV];exact kcl_l0 hVl);have hk1:(kcl out vs)[(out.length-1)*2+1]? =some (.slice xb r_.2.length xc):=(by rw [hOl,hO,hV];exact kcl_l1 hVl);refine Z1 ?_;refine ql_env (d:=45) (v:=(vn (out.length-1))) (by show Value.int .i64 _=_;congr 1;omega) ?_;refine ql_v rfl (o_ixP (a:=a8) underlying169 sz189 rfl rfl oqz (nn_rs (xs:=kcl out vs) sq3z (λ _=>by rw [kcl_len hq2];omega))) ?_;refine ql_v rfl (o_faP (a:=a8) (m:=0) (o:=0) underlying189 rfl rfl sz3 rfl (nn_rs (xs:=kcl out vs) sq3z (λ _=>by rw [kcl_len hq2];omega))) ?_;refine ql_v rfl (o_ldP (a:=a8) (xs:=kcl out vs) p3 rfl sq3z hk0) ?_;refine Z1 ?_;refine ql_env (d:=50) (v:=(vn (out.length-1))) (by show Value.int .i64 _=_;congr 1;omega) ?_;refine ql_v rfl (o_ixP (a:=a8) underlying169 sz189 rfl rfl oqz (nn_rs (xs:=kcl out vs) sq3z (λ _=>by rw [kcl_len hq2];omega))) ?_;refine ql_v rfl (o_faP (a:=a8) (m:=0) (o:=1) underlying189 rfl rfl sz57 rfl (nn_rs (xs:=kcl out vs) sq3z (λ _=>by rw [kcl_len hq2];omega))) ?_;refine ql_v rfl (o_ldP (a:=a8) (xs:=kcl out vs) p57 rfl sq3z hk1) ?_;refine ql_v rfl (o_len underlying57 rfl) ?_;refine ql_v rfl (o_addI rfl rfl oqz) ?_;refine ql_v rfl (o_move wqz) ?_;refine ql_v rfl (o_eqi rfl rfl) ?_;refine Zfe ?_;exact ⟨_,by first|(rw [hO,adjB_snoc,decide_eq_decide];omega)|(rw [hne];rfl),rfl,rfl,rfl,rfl,rfl,rfl,rfl,rfl,drqz⟩
      have hne:out=[]:=List.eq_nil_of_length_eq_zero (by simp at h;omega);refine Zfn ?_;refine Zcw ?_;refine Zn ?_;refine ql_v rfl (o_pick_f rfl wqz) ?_;refine ql_nil ?_;exact ⟨_,by first|(rw [hO,adjB_snoc,decide_eq_decide];omega)|(rw [hne];rfl),rfl,rfl,rfl,rfl,rfl,rfl,rfl,rfl,drqz⟩
    intro ρ B hI;obtain ⟨bb,hbb0,hE58,hE0,hE8,hE10,hE11,hE32,hE33,hE34,hBA⟩:=hI;refine q_then_n ?_;refine tc_pre hBA.sat ?_;clear hBA;refine te 58 hE58 ?_;refine te 0 hE0 ?_;refine te 8 hE8 ?_;refine te 10 hE10 ?_;refine te 11 hE11 ?_;refine te 32 hE32 ?_;refine te 33 hE33 ?_;refine te 34 hE34 ?_;refine tc_cond rfl (λ h=> ?_) (λ h=> ?_)
    . obtain ⟨O,r_,hO,hadj,hrun⟩:=adj_t (f:=f) (show adjB out ((adrF n kd f)[i]'oqz)=true by rw [←hbb0];exact h);obtain ⟨V,xb,xc,hV,hVl,hxc⟩:=parts_last (O:=O) (r:=r_) (by rw [←hO];exact hq2) (by rw [←hO];exact hps);subst hO hV;have hOl:(O++[r_]).length=O.length+1:=(by rw [List.length_append,List.length_singleton]);have hrn:=hq5 r_ (by simp);refine tc_have (λ _ _ h=>sl_some h oqz) λ ⟨bb8,oo8,ha8⟩=> ?_
      subst ha8;refine tc_eq (show _=A*Sl 1 (.slice a5 (kys f kd vis).length c5) (kys f kd vis).length (ints ((adrF n kd f).map λ a:Nat=>(a:Int)))*Parts V (O.map (·.2))*Sl 1 (.slice xb r_.2.length xc) r_.2.length (bys r_.2)*Sl 2 (.slice (some ⟨bb8,oo8,none⟩) (O++[r_]).length c8) (O++[r_]).length (kcl (O++[r_]) (V++[(.slice xb r_.2.length xc)])) by rw [List.map_append];rw [show Parts (V++[(.slice xb r_.2.length xc)]) (O.map (·.2)++[r_].map (·.2))=Parts V (O.map (·.2))*Sl 1 (.slice xb r_.2.length xc) r_.2.length (bys r_.2) from parts_snoc (by rw [List.length_map];exact hVl)];ac_rfl) ?_;refine tc_seq ?_;refine tc_regh (S:=A*Sl 1 (.slice a5 (kys f kd vis).length c5) (kys f kd vis).length (ints ((adrF n kd f).map λ a:Nat=>(a:Int)))*Parts V (O.map (·.2))) mo drqz ?_
      show TH _ _ _ _ _ 19 (Array.replicate 19 false) _ _
      refine Zdu ?_;refine th_env (d:=60) (v:=(vn O.length)) (by show Value.int .i64 _=_;rw [hOl];congr 1;omega) ?_;refine tm 2 rfl kqz rfl (o_move wqz) ?_;refine tm 3 rfl kqz rfl (o_move wqz) ?_;refine th_env (d:=62) (v:=(vn O.length)) (by show Value.int .i64 _=_;rw [hOl];congr 1;omega) ?_;refine tm 4 rfl kqz rfl (o_ixP (a:=some ⟨bb8,oo8,none⟩) underlying169 sz189 rfl rfl oqz nn_some) ?_;refine tm 5 rfl kqz rfl (o_faP (a:=some ⟨bb8,oo8,none⟩) (m:=0) (o:=1) underlying189 rfl rfl sz57 rfl nn_some) ?_;refine tm 7 rfl kqz rfl (o_move wqz) ?_;refine tm 8 rfl kqz rfl (o_nilCheck rfl) ?_;refine tm 9 rfl kqz rfl (o_fieldAddr (o:=1) underlying113 rfl rfl sz111 rfl) ?_;refine tm 10 rfl kqz rfl (o_load p111 rfl haqz rfl) ?_;refine tm 11 rfl kqz rfl (o_move wqz) ?_;refine tm 12 rfl kqz rfl (o_lookup (ik:= .i64) underlying111 underlying3 z185 rfl rfl haqz) ?_;refine th_env (d:=71) (v:= .agg (cel0 c0).toArray) (by show (M.get ((((adrF n kd f)[i]'oqz):Nat):Int)).getD _=_;rw [hget];rfl) ?_;refine tm 13 rfl kqz rfl (o_field1 underlying185 rfl p5 rfl rfl) ?_;refine th_two (i:=6) (j:=14) kqz ?_ ?_
      . skip
        refine oh_v rfl rfl rfl (o_ldP (a:=some ⟨bb8,oo8,none⟩) (xs:=kcl (O++[r_]) (V++[(.slice xb r_.2.length xc)])) p57 rfl sq3z (kcl_l1 hVl)) ?_;refine th_one (i:=14) kqz ?_;refine oh_x rfl rfl rfl (o_buildSliceL (k:=1) (vs:=bys [c0.1]) (l:=bys [c0.1]) underlying57 sz5 z5 rfl rfl (by decide) (by decide) (by intro v hv;simp only [bys,b8,List.map_cons,List.map_nil,List.mem_cons,List.not_mem_nil,or_false] at hv;rcases hv with rfl;rfl) rfl) ?_;rintro _ _ ⟨b73,rfl,rfl⟩;refine ⟨by repeat (first|with_reducible exact dr_refl|apply dr_keep|apply dr_drop), ?_⟩;refine th_one (i:=15) kqz ?_;refine oh_x rfl rfl rfl (o_apB underlying57 underlying57 sz5 by5 z5 rfl (by decide) (by decide) rfl rfl rfl ctqz rfl rfl oqz (show _=bys (r_.2++[c0.1]) by rw [←bys_append])) ?_;rintro _ _ ⟨a74,c74,rfl,hc74,rfl⟩;refine ⟨by repeat (first|with_reducible exact dr_refl|apply dr_keep|apply dr_drop), ?_⟩;refine tm 16 rfl kqz rfl (o_ixP (a:=some ⟨bb8,oo8,none⟩) underlying169 sz189 rfl rfl oqz nn_some) ?_;refine tm 17 rfl kqz rfl (o_faP (a:=some ⟨bb8,oo8,none⟩) (m:=0) (o:=1) underlying189 rfl rfl sz57 rfl nn_some) ?_;refine th_one (i:=18) kqz ?_;refine oh_u rfl rfl rfl (o_stP (ys:=kcl (O++[(r_.1,r_.2++[c0.1])]) (V++[.slice a74 (r_.2.length+1) c74])) sz57 rfl rfl rfl ctqz oqz (kcl_set hVl _)) drqz ?_;refine Zb5 ?_;refine tc_exit ?_;refine q_then_e (q_block_x (q_then_n ?_));refine Zeo ?_;have hlo:(O++[(r_.1,r_.2++[c0.1])]).length=(O++[r_]).length:=(by rw [List.length_append,List.length_append];rfl);exact ⟨_,by omega,i+1,O++[(r_.1,r_.2++[c0.1])],V++[(.slice a74 (r_.2.length+1) c74)],(some ⟨bb8,oo8,none⟩),c8,by omega,by rw [runs_next hq1 hi,hrun,hbya],by rw [List.length_append,List.length_append,hVl];rfl,by rw [hlo];exact hq3,by rw [hlo];omega,λ r hr=>(by rcases List.mem_append.1 hr with h9|h9;exact hq5 r (List.mem_append_left _ h9);rw [List.mem_singleton] at h9;subst h9;show r_.1+(r_.2++[c0.1]).length<=n;rw [List.length_append,List.length_singleton];omega),rfl,by rw [hlo];rfl,rfl,rfl,rfl,rfl,by rw [hlo,List.map_append,show Parts (V++[(.slice a74 (r_.2.length+1) c74)]) (O.map (·.2)++[(r_.1,r_.2++[c0.1])].map (·.2))=Parts V (O.map (·.2))*Sl 1 (.slice a74 (r_.2.length+1) c74) (r_.2.length+1) (bys (r_.2++[c0.1])) from (parts_snoc (x:=r_.2++[c0.1]) (by rw [List.length_map];exact hVl)).trans (by rw [List.length_append,List.length_singleton]),←star_assoc];repeat (first|with_reducible exact dr_refl|apply dr_keep|apply dr_drop)⟩
      . skip
        refine oh_x rfl rfl rfl (o_buildSliceL (k:=1) (vs:=bys [c0.1]) (l:=bys [c0.1]) underlying57 sz5 z5 rfl rfl (by decide) (by decide) (by intro v hv;simp only [bys,b8,List.map_cons,List.map_nil,List.mem_cons,List.not_mem_nil,or_false] at hv;rcases hv with rfl;rfl) rfl) ?_;rintro _ _ ⟨b73,rfl,rfl⟩;refine ⟨by repeat (first|with_reducible exact dr_refl|apply dr_keep|apply dr_drop), ?_⟩;refine th_one (i:=6) kqz ?_;refine oh_v rfl rfl rfl (o_ldP (a:=some ⟨bb8,oo8,none⟩) (xs:=kcl (O++[r_]) (V++[(.slice xb r_.2.length xc)])) p57 rfl sq3z (kcl_l1 hVl)) ?_;refine th_one (i:=15) kqz ?_;refine oh_x rfl rfl rfl (o_apB underlying57 underlying57 sz5 by5 z5 rfl (by decide) (by decide) rfl rfl rfl ctqz rfl rfl oqz (show _=bys (r_.2++[c0.1]) by rw [←bys_append])) ?_;rintro _ _ ⟨a74,c74,rfl,hc74,rfl⟩;refine ⟨by repeat (first|with_reducible exact dr_refl|apply dr_keep|apply dr_drop), ?_⟩;refine tm 16 rfl kqz rfl (o_ixP (a:=some ⟨bb8,oo8,none⟩) underlying169 sz189 rfl rfl oqz nn_some) ?_;refine tm 17 rfl kqz rfl (o_faP (a:=some ⟨bb8,oo8,none⟩) (m:=0) (o:=1) underlying189 rfl rfl sz57 rfl nn_some) ?_;refine th_one (i:=18) kqz ?_;refine oh_u rfl rfl rfl (o_stP (ys:=kcl (O++[(r_.1,r_.2++[c0.1])]) (V++[.slice a74 (r_.2.length+1) c74])) sz57 rfl rfl rfl ctqz oqz (kcl_set hVl _)) drqz ?_;refine Zb5 ?_;refine tc_exit ?_;refine q_then_e (q_block_x (q_then_n ?_));refine Zeo ?_;have hlo:(O++[(r_.1,r_.2++[c0.1])]).length=(O++[r_]).length:=(by rw [List.length_append,List.length_append];rfl);exact ⟨_,by omega,i+1,O++[(r_.1,r_.2++[c0.1])],V++[(.slice a74 (r_.2.length+1) c74)],(some ⟨bb8,oo8,none⟩),c8,by omega,by rw [runs_next hq1 hi,hrun,hbya],by rw [List.length_append,List.length_append,hVl];rfl,by rw [hlo];exact hq3,by rw [hlo];omega,λ r hr=>(by rcases List.mem_append.1 hr with h9|h9;exact hq5 r (List.mem_append_left _ h9);rw [List.mem_singleton] at h9;subst h9;show r_.1+(r_.2++[c0.1]).length<=n;rw [List.length_append,List.length_singleton];omega),rfl,by rw [hlo];rfl,rfl,rfl,rfl,rfl,by rw [hlo,List.map_append,show Parts (V++[(.slice a74 (r_.2.length+1) c74)]) (O.map (·.2)++[(r_.1,r_.2++[c0.1])].map (·.2))=Parts V (O.map (·.2))*Sl 1 (.slice a74 (r_.2.length+1) c74) (r_.2.length+1) (bys (r_.2++[c0.1])) from (parts_snoc (x:=r_.2++[c0.1]) (by rw [List.length_map];exact hVl)).trans (by rw [List.length_append,List.length_singleton]),←star_assoc];repeat (first|with_reducible exact dr_refl|apply dr_keep|apply dr_drop)⟩
    have hbf:adjB out ((adrF n kd f)[i]'oqz)=false:=(by rw [←hbb0];exact h);refine Zc ?_;refine Zcg ?_;refine tlm ?_;refine Zbk ?_;refine tv (o_load p111 rfl haqz rfl) ?_;refine tlm ?_;refine tv (o_lookup (ik:= .i64) underlying111 underlying3 z185 rfl rfl haqz) ?_;refine tl_env (d:=84) (v:= .agg (cel0 c0).toArray) (by show (M.get ((((adrF n kd f)[i]'oqz):Nat):Int)).getD _=_;rw [hget];rfl) ?_;refine tv (o_field1 underlying185 rfl p5 rfl rfl) ?_;refine tl_x rfl (o_buildSliceL (k:=1) (vs:=bys [c0.1]) (l:=bys [c0.1]) underlying57 sz5 z5 rfl rfl (by decide) (by decide) (by intro v hv;simp only [bys,b8,List.map_cons,List.map_nil,List.mem_cons,List.not_mem_nil,or_false] at hv;rcases hv with rfl;rfl) rfl) ?_;rintro _ _ ⟨b86,rfl,rfl⟩;refine tl_pre (A':=A*Sl 1 (.slice a5 (kys f kd vis).length c5) (kys f kd vis).length (ints ((adrF n kd f).map λ a:Nat=>(a:Int)))*Parts vs (out.map (·.2))*Sl 2 (.slice a8 out.length c8) out.length (kcl out vs)*Sl 1 (.slice (some ⟨b86,0,none⟩) 1 1) 1 (bys [c0.1])) (λ _ _ h=>sl_new (k:=1) (n:=1) (cap:=1) (xs:=bys [c0.1]) h (by decide) (Nat.le_refl _) rfl) ?_;refine tv (o_bS (l:=[_,_]) (pv_cons wqz (pv_cons wqz pv_nil)) underlying189 z189 (pl189 underlying189) rfl) ?_;refine tl_x rfl (o_buildSliceK (k:=2) (l:=[.int .i64 ((((adrF n kd f)[i]'oqz):Nat):Int),.slice (some ⟨b86,0,none⟩) 1 1]) underlying169 sz189 z189 rfl rfl (by decide)) ?_;rintro _ _ ⟨b88,rfl,rfl⟩;refine tl_x rfl (o_apB underlying169 underlying169 sz189 by189 z189 rfl (by decide) (by decide) rfl rfl rfl ctqz rfl rfl oqz (show _=kcl (out++[(((adrF n kd f)[i]'oqz),[(byF f ((adrF n kd f)[i]'oqz))])]) (vs++[.slice (some ⟨b86,0,none⟩) 1 1]) by rw [kcl_snoc hq2])) ?_;rintro _ _ ⟨a89,c89,rfl,hc89,rfl⟩;refine tl_eq (show _=A*Sl 1 (.slice a5 (kys f kd vis).length c5) (kys f kd vis).length (ints ((adrF n kd f).map λ a:Nat=>(a:Int)))*Parts (vs++[.slice (some ⟨b86,0,none⟩) 1 1]) ((out++[(((adrF n kd f)[i]'oqz),[(byF f ((adrF n kd f)[i]'oqz))])]).map (·.2))*Sl 2 (.slice a89 (out.length+1) c89) (out.length+1) (kcl (out++[(((adrF n kd f)[i]'oqz),[(byF f ((adrF n kd f)[i]'oqz))])]) (vs++[.slice (some ⟨b86,0,none⟩) 1 1])) by rw [List.map_append,show Parts (vs++[.slice (some ⟨b86,0,none⟩) 1 1]) (out.map (·.2)++[(((adrF n kd f)[i]'oqz),[(byF f ((adrF n kd f)[i]'oqz))])].map (·.2))=Parts vs (out.map (·.2))*Sl 1 (.slice (some ⟨b86,0,none⟩) 1 1) 1 (bys [c0.1]) by rw [←hbya];exact parts_snoc (by rw [List.length_map];exact hq2)];ac_rfl) ?_;refine Zf0 ?_;exact ⟨_,by omega,i+1,out++[(((adrF n kd f)[i]'oqz),[(byF f ((adrF n kd f)[i]'oqz))])],vs++[.slice (some ⟨b86,0,none⟩) 1 1],a89,c89,by omega,by rw [runs_next hq1 hi];exact adj_f hbf,by rw [List.length_append,List.length_append,hq2];rfl,by rw [List.length_append];exact hc89,by rw [List.length_append,List.length_singleton];omega,λ r hr=>by rcases List.mem_append.1 hr with h9|h9;exact hq5 r h9;rw [List.mem_singleton] at h9;subst h9;show _+1<=n;omega,rfl,by rw [List.length_append,List.length_singleton];rfl,rfl,rfl,rfl,rfl,by rw [List.length_append,List.length_singleton];repeat (first|with_reducible exact dr_refl|apply dr_keep|apply dr_drop)⟩
  obtain rfl:i=(adrF n kd f).length:=by simp at h;omega
  rw [List.take_length] at hq1
  refine Zde ?_;refine Zh ?_;have e9:runsF n kd f=out:=hq1;rw [e9]
  exact ⟨_,_,res1 rfl rfl,Dr.sat drqz,a8,c8,vs,rfl,hq3,hq2,rfl⟩
end Go.Vl

namespace Go.Vl
open Go Go.Proofs Go.Proofs.Tryz
def ovK (f:TF)(q i:Nat)(xs:List Nat):List Nat:=xs.mapIdx λ j x=>if j<i then ((f (q+j)).map (·.1)).getD x else x
theorem ovK_len (f:TF)(q i:Nat)(xs:List Nat):(ovK f q i xs).length=xs.length:=by simp [ovK]
theorem ovK_zero (f:TF)(q:Nat)(xs:List Nat):ovK f q 0 xs=xs:=by
  apply List.ext_getElem?;intro j;unfold ovK;rw [List.getElem?_mapIdx]
  cases xs[j]? <;>simp
theorem ovK_all (f:TF)(q:Nat)(xs:List Nat):ovK f q xs.length xs=ovF f q xs:=by
  apply List.ext_getElem?;intro j;unfold ovK ovF;rw [List.getElem?_mapIdx,List.getElem?_mapIdx]
  cases h:xs[j]? with
  |none=>rfl
  |some x=>obtain ⟨hj,_⟩:=List.getElem?_eq_some_iff.1 h;simp only [Option.map_some];rw [if_pos hj]
theorem ovK_none {f:TF}{q i:Nat}{xs:List Nat}(h:f (q+i)=none):ovK f q (i+1) xs=ovK f q i xs:=by
  apply List.ext_getElem?;intro j;unfold ovK;rw [List.getElem?_mapIdx,List.getElem?_mapIdx]
  cases xs[j]? with
  |none=>rfl
  |some x=>
    simp only [Option.map_some]
    by_cases hj:j=i
    . subst hj;rw [if_pos oqz,if_neg oqz,h];rfl
    by_cases h2:j<i
    . rw [if_pos (show j<i+1 by omega),if_pos h2]
    rw [if_neg (show¬j<i+1 by omega),if_neg h2]
theorem ovK_some {f:TF}{q i:Nat}{xs:List Nat}{c:Nat×Bool}(h:f (q+i)=some c)(hi:i<xs.length):(ovK f q i xs).set i c.1=ovK f q (i+1) xs:=by
  apply List.ext_getElem?;intro j
  rw [List.getElem?_set,ovK_len]
  unfold ovK;rw [List.getElem?_mapIdx,List.getElem?_mapIdx]
  by_cases hj:i=j
  . subst hj;rw [if_pos rfl,if_pos hi,List.getElem?_eq_getElem hi]
    simp only [Option.map_some];rw [if_pos oqz,h];rfl
  rw [if_neg hj]
  cases xs[j]? with
  |none=>rfl
  |some x=>
    simp only [Option.map_some]
    by_cases h2:j<i
    . rw [if_pos (show j<i+1 by omega),if_pos h2]
    rw [if_neg (show¬j<i+1 by omega),if_neg h2]
theorem ext_succ {L:List (Nat×List Nat)}{i:Nat}(h:i<L.length):extX (L.take (i+1))=extX (L.take i)++[((((L.getD i (0,[])).1:Nat):Int),(((L.getD i (0,[])).2.length:Nat):Int))]:=by
  have e:L.getD i (0,[])=L[i]:=(by rw [List.getD_eq_getElem?_getD,List.getElem?_eq_getElem h];rfl);rw [List.take_succ_eq_append_getElem h,e];unfold extX;rw [List.map_append];rfl
theorem ext_len (L:List (Nat×List Nat)):(extX L).length=L.length:=by unfold extX;rw [List.length_map]
theorem xcl_sn (l:List (Int×Int))(x:Int×Int):xcl (l++[x])=xcl l++xcs x:=by unfold xcl;rw [List.flatMap_append];simp
theorem runs12_w {A:SP}{p t mb n:Nat}{over:Bool}{M:MS}{f:TF}{kd:Bool}{L:List (Nat×List Nat)}(ht:Has A t (cl (txcs p mb over) 113))(hmb:Has A mb (mpo .i64 M))(hM:MF M n f)(hn:n<=4194304)(hX:runsF n kd f=L):
    Fn Tryz.prog 96 #[pz t,.bool kd] A (λ r B=>∃a c vs,r= .slice a L.length c/\ L.length<=c/\ vs.length=L.length/\ B=A*Parts vs (L.map (·.2))*Sl 2 (.slice a L.length c) L.length (kcl L vs)):=by
  subst hX;exact runs12_c ht hmb hM hn
attribute [local irreducible] crk crL crc Sl pt ro Dev imgS recS readS recsF rdW rdO rkT Parts rvl recordsS runsL adrF kcl xcl kys runA runsF layF
theorem StoreT_c {A R:SP}{C:SP->SP}{t p lg d mb at_ sz:Nat}{M:MS}{s:DevS}(hc:Ct A (TxA t p lg d mb at_ sz M false s) R C:=by exact cbqz){n:Nat}{f:TF}{a:Option Addr}{c m q:Nat}{xs:List Nat}(hM:MF M n f)(hn:n=s.ls.length*64:=by omega)(ho:s.off=false:=by assumption)(hr:Rs R a (bys xs):=by exact rbqz)(hm:xs.length=m:=by first|assumption|rfl)(hb:∀x∈xs,x<256:=by assumption)(hqm:q+m<=n:=by omega):
    Fn Tryz.prog 46 #[pz t,vn q,.slice a m c] A (λ r B=>∃M2,r= .int .i64 0/\ MF M2 n (layF q xs false f)/\ B=C (TxA t p lg d mb at_ sz M2 false s)):=by
  refine fn_enterW func46 rfl ntmps46 (by simp) ?_;refine Zd2 ?_;refine Z0 ?_;refine tl_c rfl (o_call bd113 rfl (lay12_c (hc:=hc) (n:=n) (f:=f) (fr:=false) (xs:=xs) (hM:=hM) (hn:=hn) (ho:=ho) (hr:=hr) (hm:=hm) (hb:=hb) (hqm:=hqm))) ?_;rintro _ _ ⟨M2,rfl,hM2,rfl⟩;refine Zh ?_;exact ⟨.int .i64 0,_,res1 rfl rfl,λ _ _ h=>h,M2,rfl,hM2,rfl⟩
theorem FreshT_c {A R:SP}{C:SP->SP}{t p lg d mb at_ sz:Nat}{M:MS}{s:DevS}(hc:Ct A (TxA t p lg d mb at_ sz M false s) R C:=by exact cbqz){n:Nat}{f:TF}{a:Option Addr}{c m q:Nat}{xs:List Nat}(hM:MF M n f)(hn:n=s.ls.length*64:=by omega)(ho:s.off=false:=by assumption)(hr:Rs R a (bys xs):=by exact rbqz)(hm:xs.length=m:=by first|assumption|rfl)(hb:∀x∈xs,x<256:=by assumption)(hqm:q+m<=n:=by omega):
    Fn Tryz.prog 47 #[pz t,vn q,.slice a m c] A (λ r B=>∃M2,r= .int .i64 0/\ MF M2 n (layF q xs true f)/\ B=C (TxA t p lg d mb at_ sz M2 false s)):=by
  refine fn_enterW func47 rfl ntmps47 (by simp) ?_;refine Zd2 ?_;refine Z0 ?_;refine tl_c rfl (o_call bd113 rfl (lay12_c (hc:=hc) (n:=n) (f:=f) (fr:=true) (xs:=xs) (hM:=hM) (hn:=hn) (ho:=ho) (hr:=hr) (hm:=hm) (hb:=hb) (hqm:=hqm))) ?_;rintro _ _ ⟨M2,rfl,hM2,rfl⟩;refine Zh ?_;exact ⟨.int .i64 0,_,res1 rfl rfl,λ _ _ h=>h,M2,rfl,hM2,rfl⟩
theorem LoadT_c {A R:SP}{C:SP->SP}{t p lg d mb at_ sz:Nat}{M:MS}{s:DevS}(hc:Ct A (TxA t p lg d mb at_ sz M false s) R C:=by exact cbqz){n:Nat}{f:TF}{q m:Nat}(hM:MF M n f)(hn:n=s.ls.length*64:=by omega)(ho:s.off=false:=by assumption)(hqm:q+m<=n:=by omega):
    Fn Tryz.prog 43 #[pz t,vn q,vn m] A (λ r B=>∃a c,r= .tuple #[.slice a m c,.int .i64 0]/\ m<=c/\ B=A*Sl 1 (.slice a m c) m (bys (ovF f q (((imgS s).drop q).take m)))):=by
  refine fn_enterW func43 rfl ntmps43 (by simp) ?_;obtain ⟨rfl,hC⟩:=hc;refine tc_eq (show _=R*pt p (cl (pocs lg d (some t)) 110)*pt lg (cl (lcs11 d at_ sz) 99)*Dev d s*pt t (cl (txcs p mb false) 113)*pt mb (mpo .i64 M) by unfold TxA;rw [if_neg (by decide)];ac_rfl) ?_;refine tc_have (λ _ _ h=>ct_wf2 ctqz h) λ hwf=> ?_
  have htop:=hwf.top;have hil:=imgS_len hwf;obtain ⟨xs,hxs⟩:∃xs,(((imgS s).drop q).take m)=xs:=⟨_,rfl⟩;have hxl:xs.length=m:=(by rw [←hxs,List.length_take,List.length_drop];omega);refine Zfm ?_;refine tl_c rfl (o_call bd95 rfl (begun12_c (s:=s))) ?_;refine Zcb ?_;refine Zci ?_;intro h;refine Zbf ?_;refine Zdc ?_;refine Z9 ?_;refine tv (o_load p47 rfl hsqz rfl) ?_;refine Z0 ?_;refine tl_c rfl (o_call bd110 rfl (Load_c (s:=s) (p:=q) (m:=m))) ?_;rintro _ _ ⟨a29,c29,rfl,hc29,rfl⟩;rw [hxs]
  refine Zb9 ?_;refine Zdg ?_;refine Zcn ?_;refine tc_loop (λ kk ρ BB=>∃ (i:Nat),(i<=m)/\ kk=m-i/\ ρ 34=(vn i)/\ ρ 0=(pz t)/\ ρ 1=(vn q)/\ ρ 9= .slice a29 m c29/\ ρ 10= .int .i64 0/\ ρ 33=(vn m)/\ Dr BB (R*pt p (cl (pocs lg d (some t)) 110)*pt lg (cl (lcs11 d at_ sz) 99)*Dev d s*pt t (cl (txcs p mb false) 113)*pt mb (mpo .i64 M)*Sl 1 (.slice a29 m c29) m (bys (ovK f q i xs)))) (m:=m-(0)) ?_ ?_
  . exact ⟨0,by omega,rfl,rfl,rfl,rfl,rfl,rfl,rfl,by rw [ovK_zero];exact dr_refl⟩
  intro k ρ B hI;obtain ⟨i,hp0,hkk1,hE34,hE0,hE1,hE9,hE10,hE33,hBA⟩:=hI;refine tc_pre hBA.sat ?_;clear hBA;refine te 34 hE34 ?_;refine te 0 hE0 ?_;refine te 1 hE1 ?_;refine te 9 hE9 ?_;refine te 10 hE10 ?_;refine te 33 hE33 ?_;refine Zcf ?_;refine tc_cond rfl (λ h=> ?_) (λ h=> ?_)
  . have hi:i<xs.length:=(by simp at h;omega);have hget:=hM.get (q+i);obtain ⟨o,ho9⟩:∃o,f (q+i)=o:=⟨_,rfl⟩;rw [ho9] at hget
    have hkl:=ovK_len f q i xs;refine Zew ?_;refine Z6 ?_;refine Zeh ?_;refine Z0 ?_;refine tv adqz ?_;refine tl_env (d:=44) (v:=(vn (q+i))) (by first|rfl|(show Value.int .i64 _=_;congr 1;omega)) ?_;refine tv (o_lookupOk (ik:= .i64) underlying111 underlying3 z185 rfl rfl hsqz) ?_;refine tl_env (d:=45) (v:= .tuple #[.agg (cel0 (o.getD (0,false))).toArray,.bool o.isSome]) (by show Value.tuple #[(M.get ((q+i:Nat):Int)).getD _,.bool (M.get ((q+i:Nat):Int)).isSome]=_;rw [hget];cases o<;>rfl) ?_;refine tlm ?_;refine Zl ?_;refine tl_x rfl (o_alloc z185 rfl) ?_;rintro _ _ ⟨b12,rfl,rfl⟩;refine tl_u rfl (o_stUN (l':=cel0 (o.getD (0,false))) rfl upqz sz185 rfl rfl rfl (by show 2<=2;decide) rfl) ?_;refine Z6 ?_;refine nq ?_;refine tc_cut (λ ρ BB=>ρ 0=(pz t)/\ ρ 1=(vn q)/\ ρ 9= .slice a29 m c29/\ ρ 10= .int .i64 0/\ ρ 33=(vn m)/\ ρ 34=(vn i)/\ Dr BB (R*pt p (cl (pocs lg d (some t)) 110)*pt lg (cl (lcs11 d at_ sz) 99)*Dev d s*pt t (cl (txcs p mb false) 113)*pt mb (mpo .i64 M)*Sl 1 (.slice a29 m c29) m (bys (ovK f q (i+1) xs)))) ?_ ?_
    . skip
      refine tc_cond rfl (λ h=> ?_) (λ h=> ?_)
      . obtain ⟨c0,rfl⟩:∃c0,o=some c0:=by cases o<;>simp at h ⊢
        have hc8:=hM.by_ _ _ ho9;refine Zcg ?_;refine tv (o_fieldAddr (o:=0) underlying185 rfl rfl sz5 rfl) ?_;refine tv (by first|exact o_load p5 rfl hsqz rfl|exact o_loadC p5 rfl (by assumption)) ?_;refine tv (o_ixP1 underlying57 sz5 rfl rfl oqz (nn_rs (xs:=bys (ovK f q i xs)) sq3z (by rw [bys_length];omega))) ?_;refine tl_u rfl (o_stP (ys:=bys ((ovK f q i xs).set i c0.1)) sz5 rfl rfl rfl ctqz oqz (bys_set _ _ _)) ?_;refine tl_nil ?_;exact ⟨rfl,rfl,rfl,rfl,rfl,rfl,by first|(rw [ovK_none ho9];exact dr_drop dr_refl)|(rw [←ovK_some ho9 hi];repeat (first|with_reducible exact dr_refl|apply dr_keep|apply dr_drop))⟩
      obtain rfl:o=none:=by cases o<;>simp at h ⊢
      refine tc_skip ?_;exact ⟨rfl,rfl,rfl,rfl,rfl,rfl,by first|(rw [ovK_none ho9];exact dr_drop dr_refl)|(rw [←ovK_some ho9 hi];repeat (first|with_reducible exact dr_refl|apply dr_keep|apply dr_drop))⟩
    intro ρ B hI;obtain ⟨hE0,hE1,hE9,hE10,hE33,hE34,hBA⟩:=hI;refine q_block_n (q_then_n ?_);refine tc_pre hBA.sat ?_;clear hBA;refine te 0 hE0 ?_;refine te 1 hE1 ?_;refine te 9 hE9 ?_;refine te 10 hE10 ?_;refine te 33 hE33 ?_;refine te 34 hE34 ?_;refine Zeo ?_;exact ⟨_,by omega,i+1,by omega,rfl,rfl,rfl,rfl,rfl,rfl,rfl,drqz⟩
  obtain rfl:i=m:=by simp at h;omega
  refine Zde ?_;refine tlm ?_;refine Zee ?_;have e9:ovK f q i xs=ovF f q xs:=(by rw [←hxl];exact ovK_all f q xs);rw [e9]
  exact ⟨_,R*TxA t p lg d mb at_ sz M false s*Sl 1 (.slice a29 i c29) i (bys (ovF f q xs)),res2 rfl rfl rfl,λ g w h=>(Dr.sat (A':=R*pt p (cl (pocs lg d (some t)) 110)*pt lg (cl (lcs11 d at_ sz) 99)*Dev d s*pt t (cl (txcs p mb false) 113)*pt mb (mpo .i64 M)*Sl 1 (.slice a29 i c29) i (bys (ovF f q xs))) drqz g w h).perm (by unfold TxA;rw [if_neg (by decide)];ac_rfl),a29,c29,rfl,hc29,rfl⟩
theorem Zcr {p r:Prop}(k:r)(h:Kq r->p:=by intro k;refine tv (o_fieldAddr (o:=0) underlying189 rfl rfl sz3 rfl) ?_;refine tv (o_load p3 rfl hsqz rfl) ?_;exact k.o):p:=h ⟨k⟩
theorem Zd0 {p r:Prop}(k:r)(h:Kq r->p:=by intro k;refine tv (o_fieldAddr (o:=1) underlying189 rfl rfl sz57 rfl) ?_;refine tv (o_load p57 rfl hsqz rfl) ?_;exact k.o):p:=h ⟨k⟩
theorem Extents12_c {A:SP}{p t mb n:Nat}{M:MS}{f:TF}{L:List (Nat×List Nat)}(ht:Has A t (cl (txcs p mb false) 113):=by exact hbqz)(hmb:Has A mb (mpo .i64 M):=by exact hbqz)(hM:MF M n f)(hn:n<=4194304:=by omega)(hX:runsF n false f=L)(hLl:L.length<=4194304):
    Fn Tryz.prog 49 #[pz t] A (λ r B=>∃a c,r= .slice a L.length c/\ L.length<=c/\ B=A*Sl 2 (.slice a L.length c) L.length (xcl (extX L))):=by
  refine fn_enterW func49 rfl ntmps49 (by simp) ?_;refine Zcl ?_;refine Zdb ?_;refine tl_bool (d:=8) rfl dbq (sbq ?_);intro h;refine tlm ?_;refine Zw ?_;refine tv (o_load p69 rfl ht rfl) ?_;refine tv (o_eqp underlying69 rfl rfl) ?_;refine Zbj ?_;refine tl_bool (d:=15) rfl dbq (sbq ?_);intro h;refine tlm ?_;refine Zbs ?_;refine tv (o_load p4 rfl ht rfl) ?_;refine tv (o_pick_f rfl wqz) ?_;refine Zm ?_;intro h;refine Zc ?_;refine Zcl ?_;refine tl_c rfl (o_call bd96 rfl (runs12_w ht hmb hM hn hX)) ?_;rintro _ _ ⟨a22,c22,vs,rfl,hc22,hvs,rfl⟩;refine tl_have (λ _ _ h=>parts_getD hvs h.left) λ hps=> ?_
  refine tv (o_len underlying169 rfl) ?_;refine Zcn ?_;refine tc_pre (A':=A*Parts vs (L.map (·.2))*Sl 2 (.slice a22 L.length c22) L.length (kcl L vs)*Sl 2 (.slice none 0 0) 0 []) (λ _ _ h=>sl_nil h) ?_;refine tc_loop (λ kk ρ BB=>∃ (i:Nat) (a3:Option Addr) (c3:Nat),(i<=L.length)/\ (i<=c3)/\ kk=L.length-i/\ ρ 3= .slice a3 i c3/\ ρ 24=(vn i)/\ ρ 22= .slice a22 L.length c22/\ ρ 23=(vn L.length)/\ Dr BB (A*Parts vs (L.map (·.2))*Sl 2 (.slice a22 L.length c22) L.length (kcl L vs)*Sl 2 (.slice a3 i c3) i (xcl (extX (L.take i))))) (m:=L.length-(0)) ?_ ?_
  . exact ⟨0,none,0,by omega,by omega,rfl,rfl,rfl,rfl,rfl,by rw [List.take_zero,show extX []=[] from rfl,xcl_nil];exact dr_refl⟩
  intro k ρ B hI;obtain ⟨i,a3,c3,hp0,hp1,hkk1,hE3,hE24,hE22,hE23,hBA⟩:=hI;refine tc_pre hBA.sat ?_;clear hBA;refine te 3 hE3 ?_;refine te 24 hE24 ?_;refine te 22 hE22 ?_;refine te 23 hE23 ?_;refine Zcf ?_;refine tc_cond rfl (λ h=> ?_) (λ h=> ?_)
  . have hi:i<L.length:=(by simp at h;omega);obtain ⟨xb,xc,hv,hxc⟩:=hps i hi;have hkat:=kcl_at hvs hi;rw [hv] at hkat
    refine Zed ?_;refine tv (o_ixP (a:=a22) underlying169 sz189 rfl rfl oqz (nn_rs (xs:=kcl L vs) sq3z (λ _=>by rw [kcl_len hvs];omega))) ?_;refine tv (o_ldPN (a:=a22) (xs:=kcl L vs) (vs:=[.int .i64 (((L.getD i (0,[])).1:Nat):Int),.slice xb (L.getD i (0,[])).2.length xc]) a189 sz189 rfl sq3z hkat rfl (by decide)) ?_;refine tl_x rfl (o_alloc z189 rfl) ?_;rintro _ _ ⟨b5,rfl,rfl⟩;refine tl_u rfl (o_stUN (l':=[.int .i64 (((L.getD i (0,[])).1:Nat):Int),.slice xb (L.getD i (0,[])).2.length xc]) rfl upqz sz189 rfl rfl rfl (by show 2<=2;decide) rfl) ?_;refine nq ?_;refine Zbq ?_;refine Zcr ?_;refine Zd0 ?_;refine tv (o_len underlying57 rfl) ?_;refine tv (o_bS (l:=[_,_]) (pv_cons wqz (pv_cons wqz pv_nil)) underlying162 z162 (pl162 underlying162) rfl) ?_;refine tl_x rfl (o_buildSliceK (k:=2) (l:=xcs ((((L.getD i (0,[])).1:Nat):Int),(((L.getD i (0,[])).2.length:Nat):Int))) underlying107 sz162 z162 rfl rfl (by decide)) ?_;rintro _ _ ⟨b35,rfl,rfl⟩;refine tl_x rfl (o_apB underlying107 underlying107 sz162 by162 z162 rfl (by decide) (by decide) rfl rfl rfl ctqz rfl rfl oqz rfl) ?_;rintro _ _ ⟨a36,c36,rfl,hc36,rfl⟩;refine Zf0 ?_;exact ⟨_,by omega,i+1,_,_,by omega,hc36,rfl,rfl,rfl,rfl,rfl,by rw [ext_succ hi,xcl_sn];repeat (first|with_reducible exact dr_refl|apply dr_keep|apply dr_drop)⟩
  obtain rfl:i=L.length:=by simp at h;omega
  rw [List.take_length]
  refine Zde ?_;refine Zh ?_;exact ⟨_,_,res1 rfl rfl,Dr.sat drqz,a3,c3,rfl,hp1,rfl⟩
theorem DropT_c {A R:SP}{C:SP->SP}{t p lg d mb at_ sz:Nat}{M:MS}{s:DevS}(hc:Ct A (TxA t p lg d mb at_ sz M false s) R C:=by exact cbqz):
    Fn Tryz.prog 48 #[pz t] A (λ r B=>r= .int .i64 0/\ B=C (TxA t p lg d mb at_ sz M.clr true s)):=by
  refine fn_enterW func48 rfl ntmps48 (by simp) ?_;obtain ⟨rfl,hC⟩:=hc;refine tc_eq (show _=R*pt p (cl (pocs lg d (some t)) 110)*pt lg (cl (lcs11 d at_ sz) 99)*Dev d s*pt t (cl (txcs p mb false) 113)*pt mb (mpo .i64 M) by unfold TxA;rw [if_neg (by decide)];ac_rfl) ?_;refine tc_have (λ _ _ h=>ct_wf2 ctqz h) λ hwf=> ?_
  have htop:=hwf.top;refine Zy ?_;refine Zr ?_;refine Zb ?_;refine Zfc ?_;intro h;refine tlm ?_;refine Zdc ?_;refine Zdz ?_;refine Zc1 ?_;intro h;refine Zb ?_;refine Zbs ?_;refine tv (o_load p4 rfl hsqz rfl) ?_;refine Zc1 ?_;intro h;refine Zc4 ?_;refine Zb ?_;refine tl_c rfl (o_call bd101 rfl (end12_c (R:=R*pt lg (cl (lcs11 d at_ sz) 99)*Dev d s) (p:=p) (lg:=lg) (d:=d) (mb:=mb) (M:=M) (over:=false) (hA:=by first|rfl|ac_rfl))) ?_;refine Zez ?_;refine Zc9 ?_;exact ⟨.int .i64 0,_,res1 rfl rfl,λ g w h=>by rw [hC];exact h.perm (by unfold TxA;rw [if_pos rfl];ac_rfl),rfl,rfl⟩
theorem DropO_c {A:SP}{p t mb:Nat}(ht:Has A t (cl (txcs p mb true) 113):=by exact hbqz):
    Fn Tryz.prog 48 #[pz t] A (λ r B=>r= .int .i64 3/\ A=B):=by
  refine fn_enterW func48 rfl ntmps48 (by simp) ?_;refine Zy ?_;refine Zr ?_;refine Zb ?_;refine Zfc ?_;intro h;refine tlm ?_;refine Zw ?_;refine tv (o_load p69 rfl ht rfl) ?_;refine Zdz ?_;refine Zc1 ?_;intro h;refine Zb ?_;refine Zbs ?_;refine tv (o_load p4 rfl ht rfl) ?_;refine Za ?_;refine tc_cond rfl (sbq ?_) dbq;intro h;refine Ze8 ?_;exact ⟨.int .i64 3,_,res1 rfl rfl,Dr.sat drqz,rfl,rfl⟩
end Go.Vl

namespace Go.Vl
open Go Go.Proofs Go.Proofs.Tryz
theorem o_max2 {P:Program}{n:Nat}{ρ:Env}{A:SP}{dst:Option Tmp}{ty t t':TypeId}{pos:String}{after:Array Edge}{gd:Option (Nat×Bool)}{x y:Operand}{a b:Nat}(hu:P.underlying ty=some (.int .i64))(hx:ev n ρ x=(vn a))(hy:ev n ρ y=(vn b)):
    OpV P n ρ A ⟨dst,.call { callee:= .builtin .max,args:= #[x,y],argTypes:= #[t,t'] },ty,pos,after,gd⟩ ((vn (max a b))):=λ g w hs=>by
  simp only [execOp,resolve,List.map_toArray,List.map_cons,List.map_nil,hx,hy]
  rw [run_bind (w':=w) (a:=⟨.builtin .max #[t,t'] ty _,#[vn a,vn b]⟩) (by rfl)]
  simp only [invoke,builtin]
  rw [run_bind (w':=w) (a:=(vn (max a b)))]
  . rfl
  have e:(if (b:Int)>(a:Int) then (b:Int) else (a:Int))=((max a b:Nat):Int):=(by split<;>omega)
  simp [Builtin.max_,Builtin.max2,List.foldlM,Sem.run_bind,←e]
theorem drop_getD {L:List (Nat×List Nat)}{i:Nat}(h:i<L.length):L.drop i=L.getD i (0,[])::L.drop (i+1):=by
  rw [List.drop_eq_getElem_cons h,List.getD_eq_getElem?_getD,List.getElem?_eq_getElem h];rfl
theorem stoL_cons (r:Nat×List Nat)(l:List (Nat×List Nat))(s:DevS):stoL (r::l) s=if (sto (r.1:Nat) r.2 s).1≠0 then sto (r.1:Nat) r.2 s else stoL l (sto (r.1:Nat) r.2 s).2:=rfl
theorem stoL_e {L:List (Nat×List Nat)}{i:Nat}{s s2:DevS}{e:Int}(hi:i<L.length)(h:sto ((L.getD i (0,[])).1:Nat) (L.getD i (0,[])).2 s=(e,s2))(he:e≠0):stoL (L.drop i) s=(e,s2):=by
  rw [drop_getD hi,stoL_cons,h,if_pos he]
theorem stoL_o {L:List (Nat×List Nat)}{i:Nat}{s s2:DevS}(hi:i<L.length)(h:sto ((L.getD i (0,[])).1:Nat) (L.getD i (0,[])).2 s=(0,s2)):stoL (L.drop i) s=stoL (L.drop (i+1)) s2:=by
  rw [drop_getD hi,stoL_cons,h,if_neg (by simp)]
theorem linR_at {L:List (Nat×List Nat)}{j dn:Nat}(h:j<L.length):linR (L.drop j) dn=(List.range ((((L.getD j (0,[])).1+(L.getD j (0,[])).2.length-1)/64)+1-(max ((L.getD j (0,[])).1/64) dn))).map (λ i=>(max ((L.getD j (0,[])).1/64) dn)+i)++linR (L.drop (j+1)) (max dn ((((L.getD j (0,[])).1+(L.getD j (0,[])).2.length-1)/64)+1)):=by
  rw [drop_getD h];rfl
theorem flLs_cons (q:Nat)(l:List Nat)(s:DevS):flLs (q::l) s=if (fl1 ((q*64:Nat):Int) s).1≠0 then fl1 ((q*64:Nat):Int) s else flLs l (fl1 ((q*64:Nat):Int) s).2:=rfl
theorem range_step {k q:Nat}(h:q<k):(List.range (k-q)).map (λ i=>q+i)=q::(List.range (k-(q+1))).map (λ i=>q+1+i):=by
  rw [show k-q=(k-(q+1))+1 by omega,List.range_succ_eq_map,List.map_cons,List.map_map]
  congr 1
  apply List.map_congr_left
  intro i _
  show q+(i+1)=q+1+i
  omega
theorem flLs_e {q:Nat}{l:List Nat}{s s2:DevS}{e:Int}(h:fl1 ((q*64:Nat):Int) s=(e,s2))(he:e≠0):flLs (q::l) s=(e,s2):=by rw [flLs_cons,h,if_pos he]
theorem flLs_o {q:Nat}{l:List Nat}{s s2:DevS}(h:fl1 ((q*64:Nat):Int) s=(0,s2)):flLs (q::l) s=flLs l s2:=by rw [flLs_cons,h,if_neg (by simp)]
theorem writeT_e {L:List (Nat×List Nat)}{s s1:DevS}{e:Int}(h:stoL L s=(e,s1))(he:e≠0):writeT L s=(e,s1):=by unfold writeT;rw [h,if_pos he]
theorem writeT_o {L:List (Nat×List Nat)}{s s1:DevS}{X:Int×DevS}(h:stoL L s=(0,s1))(h2:flLs (linR L 0) s1=X):writeT L s=X:=by unfold writeT;rw [h,if_neg (by simp),h2]
def RunW (n:Nat)(L:List (Nat×List Nat)):Prop:=∀r∈L,1<=r.2.length/\ r.1+r.2.length<=n/\∀b∈r.2,b<256
attribute [local irreducible] crk crL crc Sl pt ro Dev imgS recS readS recsF rdW rdO rkT Parts rvl recordsS runsL adrF kcl xcl kys runA runsF layF linR flLs stoL
theorem write12_c {A R:SP}{C:SP->SP}{d:Nat}{s:DevS}(hc:Ct A (Dev d s) R C:=by exact cbqz){p lg t mb:Nat}{ov:Option Nat}{over:Bool}(ht:Has R t (cl (txcs p mb over) 113):=by exact hbqz)(hp:Has R p (cl (pocs lg d ov) 110):=by exact hbqz){a:Option Addr}{c m n:Nat}{L:List (Nat×List Nat)}{vs:List Value}(hr:Rs R a (kcl L vs):=by exact rbqz)(hvs:vs.length=L.length:=by assumption)(hps:PsR R L vs)(hcp:∀k,k<L.length->∃b c,vs.getD k (.slice none 0 0)= .slice b (L.getD k (0,[])).2.length c/\ (L.getD k (0,[])).2.length<=c)(hW:RunW n L)(hn:n=s.ls.length*64:=by omega)(hm:L.length=m:=by first|assumption|rfl)(hml:m<=4194304:=by omega)(hroom:Room (sumL L) s:=by assumption):
    Fn Tryz.prog 97 #[pz t,.slice a m c] A (λ r B=>∃e s2,writeT L s=(e,s2)/\ r= .int .i64 e/\ B=C (Dev d s2)):=by
  refine fn_enterW func97 rfl ntmps97 (by simp) ?_;obtain ⟨rfl,hC⟩:=hc;refine tc_have (λ _ _ h=>ct_wf2 ctqz h) λ hwf=> ?_
  have htop:=hwf.top;refine Zd2 ?_;refine Zw ?_;refine tv (o_load p69 rfl haqz rfl) ?_;refine Z9 ?_;refine tv (o_load p47 rfl haqz rfl) ?_;refine Zbe ?_;refine tv (o_len underlying169 rfl) ?_;refine Zcn ?_;refine tc_loop (λ kk ρ BB=>∃ (i:Nat) (s1:DevS),(i<=m)/\ (stoL (L.drop i) s1=stoL L s)/\ (s1.ls.length=s.ls.length)/\ (Room (sumL (L.drop i)) s1)/\ kk=m-i/\ ρ 23=(vn i)/\ ρ 1= .slice a m c/\ ρ 5=(pz d)/\ ρ 21= .slice a m c/\ ρ 22=(vn m)/\ Dr BB (R*Dev d s1)) (m:=m-(0)) ?_ ?_
  . exact ⟨0,s,by omega,rfl,rfl,by rw [List.drop_zero];exact hroom,rfl,rfl,rfl,rfl,rfl,rfl,drqz⟩
  intro k ρ B hI;obtain ⟨i,s1,hp0,hp1,hp2,hp3,hkk1,hE23,hE1,hE5,hE21,hE22,hBA⟩:=hI;refine tc_pre hBA.sat ?_;clear hBA;refine te 23 hE23 ?_;refine te 1 hE1 ?_;refine te 5 hE5 ?_;refine te 21 hE21 ?_;refine te 22 hE22 ?_;refine Zcf ?_;refine tc_cond rfl (λ h=> ?_) (λ h=> ?_)
  . have hi:i<L.length:=(by simp at h;omega);obtain ⟨hw1_,hw2_,hwb⟩:=hW _ (getD_mem hi);obtain ⟨xb,xc,hv,hrb,hrl⟩:=hps i hi;obtain ⟨xb2,xc2,hv2,hxc⟩:=hcp i hi;rw [hv] at hv2
    simp only [Value.slice.injEq] at hv2
    obtain ⟨rfl,_,rfl⟩:=hv2;have hkat:=kcl_at hvs hi;rw [hv] at hkat
    refine tc_have (λ _ _ h=>ct_wf2 ctqz h) λ hw1=> ?_
    refine Zed ?_;refine tv (o_ixP (a:=a) underlying169 sz189 rfl rfl oqz (nn_rs (xs:=kcl L vs) (by repeat (first|exact hr|apply Rs.left)) (λ _=>by rw [kcl_len hvs];omega))) ?_;refine tv (o_ldPN (a:=a) (xs:=kcl L vs) (vs:=[.int .i64 (((L.getD i (0,[])).1:Nat):Int),.slice xb (L.getD i (0,[])).2.length xc]) a189 sz189 rfl (by repeat (first|exact hr|apply Rs.left)) hkat rfl (by decide)) ?_;refine tl_x rfl (o_alloc z189 rfl) ?_;rintro _ _ ⟨b7,rfl,rfl⟩;refine tl_u rfl (o_stUN (l':=[.int .i64 (((L.getD i (0,[])).1:Nat):Int),.slice xb (L.getD i (0,[])).2.length xc]) rfl upqz sz189 rfl rfl rfl (by show 2<=2;decide) rfl) ?_;refine nq ?_;refine Zb ?_;refine Zcr ?_;refine Zd0 ?_;refine tl_c rfl (o_call bd123 rfl (Store_c (s:=s1) (p:=(((L.getD i (0,[])).1:Nat):Int)) (xs:=(L.getD i (0,[])).2) (hr:=by repeat (first|exact hrb|apply Rs.left)) (hm:=rfl) (hb:=hwb) (hroom:=λ _ l hl=>by have h9:=hp3 l hl;rw [drop_getD hi,sumL_cons] at h9;omega))) ?_;rintro _ _ ⟨e32,s32,hs32,rfl,rfl⟩;refine Zfz ?_;refine tc_cond rfl (λ h=> ?_) (λ h=> ?_)
    . have he0:e32≠0:=(by simpa using h);refine Zb ?_;refine Zh ?_;refine q_block_r (q_then_r (q_then_r (q_block_r (q_then_r ?_))));exact ⟨.int .i64 (e32),C (Dev d s32),res1 rfl rfl,λ _ _ h=>by rw [hC];exact (Dr.sat (A':=R*Dev d s32) drqz) _ _ h,e32,s32,writeT_e (by rw [←hp1];exact stoL_e hi hs32 he0) he0,rfl,rfl⟩
    obtain rfl:e32=0:=by simpa using h
    refine Zfl ?_;refine Zbz ?_;exact ⟨_,by omega,i+1,_,by omega,by rw [←hp1];exact (stoL_o hi hs32).symm,by have h9:=sto_len (((L.getD i (0,[])).1:Nat):Int) (L.getD i (0,[])).2 s1;rw [hs32] at h9;exact h9.trans hp2,sto_room hs32 hw1 hwb (by rw [Nat.add_comm,←sumL_cons,←drop_getD hi];exact hp3),rfl,rfl,rfl,rfl,rfl,rfl,drqz⟩
  obtain rfl:i=m:=by simp at h;omega
  have hst:stoL L s=(0,s1):=(by rw [←hp1,List.drop_eq_nil_of_le oqz];unfold stoL;rfl);refine Zg ?_;refine Zcl ?_;refine tv (o_len underlying169 rfl) ?_;refine Zcn ?_;refine tc_loop (λ kk ρ BB=>∃ (j:Nat) (dn:Nat) (s2:DevS),(j<=i)/\ (flLs (linR (L.drop j) dn) s2=flLs (linR L 0) s1)/\ (s2.ls.length=s.ls.length)/\ (dn<=4194304)/\ kk=i-j/\ ρ 9= .int .i64 ((dn:Int)-1)/\ ρ 39=(vn j)/\ ρ 5=(pz d)/\ ρ 37= .slice a i c/\ ρ 38=(vn i)/\ Dr BB (R*Dev d s2)) (m:=i-(0)) ?_ ?_
  . exact ⟨0,0,s1,by omega,rfl,hp2,by omega,rfl,rfl,rfl,rfl,rfl,rfl,drqz⟩
  intro k ρ B hI;obtain ⟨j,dn,s2,hq0,hq1,hq2,hq3,hkk2,hE9,hE39,hE5,hE37,hE38,hBA⟩:=hI;refine tc_pre hBA.sat ?_;clear hBA;refine te 9 hE9 ?_;refine te 39 hE39 ?_;refine te 5 hE5 ?_;refine te 37 hE37 ?_;refine te 38 hE38 ?_;refine Zcf ?_;refine tc_cond rfl (λ h=> ?_) (λ h=> ?_)
  . have hj:j<L.length:=(by simp at h;omega);obtain ⟨hw1_,hw2_,hwb⟩:=hW _ (getD_mem hj);obtain ⟨xb,xc,hv,hxc⟩:=hcp j hj;have hkat:=kcl_at hvs hj;rw [hv] at hkat
    have hla:=linR_at (dn:=dn) hj;rw [hla] at hq1
    refine Zed ?_;refine tv (o_ixP (a:=a) underlying169 sz189 rfl rfl oqz (nn_rs (xs:=kcl L vs) (by repeat (first|exact hr|apply Rs.left)) (λ _=>by rw [kcl_len hvs];omega))) ?_;refine tv (o_ldPN (a:=a) (xs:=kcl L vs) (vs:=[.int .i64 (((L.getD j (0,[])).1:Nat):Int),.slice xb (L.getD j (0,[])).2.length xc]) a189 sz189 rfl (by repeat (first|exact hr|apply Rs.left)) hkat rfl (by decide)) ?_;refine tl_x rfl (o_alloc z189 rfl) ?_;rintro _ _ ⟨b11,rfl,rfl⟩;refine tl_u rfl (o_stUN (l':=[.int .i64 (((L.getD j (0,[])).1:Nat):Int),.slice xb (L.getD j (0,[])).2.length xc]) rfl upqz sz189 rfl rfl rfl (by show 2<=2;decide) rfl) ?_;refine nq ?_;refine sr ?_;refine Zcr ?_;refine tv (o_quoN (b:=64) rfl rfl oqz) ?_;refine tlm ?_;refine tv (o_addI rfl rfl oqz) ?_;refine tl_env (d:=47) (v:=(vn dn)) (by show Value.int .i64 _=_;congr 1;omega) ?_;refine tv (o_max2 underlying3 rfl rfl) ?_;refine Za ?_;refine tc_block ?_;refine tc_loop (λ kk ρ BB=>∃ (q:Nat) (dq:Nat) (s3:DevS),((max ((L.getD j (0,[])).1/64) dn)<=q)/\ (dq=if q=(max ((L.getD j (0,[])).1/64) dn) then dn else q)/\ (q<=max (max ((L.getD j (0,[])).1/64) dn) ((((L.getD j (0,[])).1+(L.getD j (0,[])).2.length-1)/64)+1))/\ (flLs ((List.range ((((L.getD j (0,[])).1+(L.getD j (0,[])).2.length-1)/64)+1-q)).map (λ i=>q+i)++linR (L.drop (j+1)) (max dn ((((L.getD j (0,[])).1+(L.getD j (0,[])).2.length-1)/64)+1))) s3=flLs (linR L 0) s1)/\ (s3.ls.length=s.ls.length)/\ kk=(((L.getD j (0,[])).1+(L.getD j (0,[])).2.length-1)/64)+1-q/\ ρ 9= .int .i64 ((dq:Int)-1)/\ ρ 12=(vn q)/\ ρ 5=(pz d)/\ ρ 11=(pz b11)/\ ρ 37= .slice a i c/\ ρ 38=(vn i)/\ ρ 39=(vn j)/\ Dr BB (R*Dev d s3*pt b11 (cl [.int .i64 (((L.getD j (0,[])).1:Nat):Int),.slice xb (L.getD j (0,[])).2.length xc] 189))) (m:=(((L.getD j (0,[])).1+(L.getD j (0,[])).2.length-1)/64)+1-((max ((L.getD j (0,[])).1/64) dn))) ?_ ?_
    . exact ⟨(max ((L.getD j (0,[])).1/64) dn),dn,s2,by omega,by rw [if_pos rfl],by omega,hq1,hq2,rfl,rfl,rfl,rfl,rfl,rfl,rfl,rfl,drqz⟩
    intro k ρ B hI;obtain ⟨q,dq,s3,ht0,ht1,ht2,ht3,ht4,hkk3,hE9,hE12,hE5,hE11,hE37,hE38,hE39,hBA⟩:=hI;refine tc_pre hBA.sat ?_;clear hBA;refine te 9 hE9 ?_;refine te 12 hE12 ?_;refine te 5 hE5 ?_;refine te 11 hE11 ?_;refine te 37 hE37 ?_;refine te 38 hE38 ?_;refine te 39 hE39 ?_;refine Zi ?_;refine Zcr ?_;refine Zd0 ?_;refine tv (o_len underlying57 rfl) ?_;refine tv (o_addI rfl rfl oqz) ?_;refine tv (o_subI rfl rfl oqz) ?_;refine tl_env (d:=56) (v:= .int .i64 (((L.getD j (0,[])).1+(L.getD j (0,[])).2.length-1:Nat):Int)) (by show Value.int .i64 _=_;congr 1;omega) ?_;refine tv (o_quoN (b:=64) rfl rfl oqz) ?_;refine tv (o_leq rfl rfl) ?_;refine nq ?_;refine tc_cond rfl (λ h=> ?_) (λ h=> ?_)
    . have hqh:q<=(((L.getD j (0,[])).1+(L.getD j (0,[])).2.length-1)/64):=(by have h9:=of_decide_eq_true h;omega);refine Zbg ?_;refine Zi ?_;refine tlm ?_;refine tv (by first|exact o_mulI rfl rfl oqz|exact o_mul rfl rfl) ?_;refine tl_env (d:=63) (v:=(vn (q*64))) (by first|(show Value.int .i64 _=_;congr 1;done)|(show Value.int .i64 _=_;congr 1;omega)) ?_;refine tl_c rfl (o_call bd159 rfl (Flush_c (s:=s3) (p:=((q*64:Nat):Int)))) ?_;rintro _ _ ⟨e64,s64,hs64,rfl,rfl⟩;refine Zfz ?_;refine tc_cond rfl (λ h=> ?_) (λ h=> ?_)
      . have he0:e64≠0:=(by simpa using h);refine Zb ?_;refine Zh ?_;refine q_then_r (q_block_r (q_then_r (q_then_r (q_block_r (q_block_r (q_then_r (q_then_r (q_block_r (q_then_r ?_)))))))));exact ⟨.int .i64 (e64),C (Dev d s64),res1 rfl rfl,λ _ _ h=>by rw [hC];exact (Dr.sat (A':=R*Dev d s64) drqz) _ _ h,e64,s64,writeT_o hst (by rw [←ht3,range_step (show q<(((L.getD j (0,[])).1+(L.getD j (0,[])).2.length-1)/64)+1 by omega),List.cons_append];exact flLs_e hs64 he0),rfl,rfl⟩
      obtain rfl:e64=0:=by simpa using h
      refine Zc ?_;refine Zbq ?_;refine Zes ?_;refine Zfj ?_;exact ⟨_,by omega,q+1,q+1,_,by omega,by rw [if_neg oqz],by omega,by rw [←ht3,range_step (show q<(((L.getD j (0,[])).1+(L.getD j (0,[])).2.length-1)/64)+1 by omega),List.cons_append];exact (flLs_o hs64).symm,by have h9:=fl1_len ((q*64:Nat):Int) s3;rw [hs64] at h9;exact h9.trans ht4,rfl,by show Value.int .i64 _=_;congr 1;omega,rfl,rfl,rfl,rfl,rfl,rfl,drqz⟩
    have hqh:¬q<=(((L.getD j (0,[])).1+(L.getD j (0,[])).2.length-1)/64):=(by have h9:=of_decide_eq_false h;omega);have hdq:dq=max dn ((((L.getD j (0,[])).1+(L.getD j (0,[])).2.length-1)/64)+1):=(by rw [ht1];split<;>omega);rw [show (((L.getD j (0,[])).1+(L.getD j (0,[])).2.length-1)/64)+1-q=0 by omega,List.range_zero,List.map_nil,List.nil_append] at ht3
    refine Zdq ?_;refine Zeo ?_;exact ⟨_,by omega,j+1,dq,s3,by omega,by rw [hdq];exact ht3,ht4,by omega,rfl,rfl,rfl,rfl,rfl,rfl,drqz⟩
  obtain rfl:j=i:=by simp at h;omega
  rw [List.drop_eq_nil_of_le (show L.length<=j by omega)] at hq1
  refine Zg ?_;refine Zc9 ?_;exact ⟨.int .i64 (0),C (Dev d s2),res1 rfl rfl,λ _ _ h=>by rw [hC];exact (Dr.sat (A':=R*Dev d s2) drqz) _ _ h,0,s2,writeT_o hst (by rw [←hq1];unfold linR flLs;rfl),rfl,rfl⟩
end Go.Vl

namespace Go.Vl
open Go Go.Proofs Go.Proofs.Tryz
structure RunP (n k:Nat) (out:List (Nat×List Nat)):Prop where
  sum:sumL out=k
  len:out.length<=k
  ok:RunW n out
theorem sumL_app (a b:List (Nat×List Nat)):sumL (a++b)=sumL a+sumL b:=by unfold sumL;rw [List.map_append,List.sum_append]
theorem runP_step {n k a:Nat}{f:TF}{out:List (Nat×List Nat)}(h:RunP n k out)(ha:a<n)(hb:byF f a<256):RunP n (k+1) (runA f out a):=by
  have h1:∀x:Nat,sumL [(x,[byF f a])]=1:=λ x=>rfl
  cases hj:adjB out a with
  |true=>
    obtain ⟨O,r,rfl,hadj,hrun⟩:=adj_t (f:=f) hj;rw [hrun]
    have hs:=h.sum;have hl:=h.len;rw [sumL_app] at hs
    rw [List.length_append,List.length_singleton] at hl
    obtain ⟨g1,g2,g3⟩:=h.ok r (by simp);have e1:∀y:List Nat,sumL [(r.1,y)]=y.length:=λ y=>by unfold sumL;simp
    have e2:sumL [r]=r.2.length:=(by unfold sumL;simp);refine ⟨by rw [sumL_app,e1,List.length_append,List.length_singleton];rw [e2] at hs;omega,by rw [List.length_append,List.length_singleton];omega,λ x hx=> ?_⟩
    rcases List.mem_append.1 hx with h9|h9
    . exact h.ok x (List.mem_append_left _ h9)
    rw [List.mem_singleton] at h9
    subst h9;refine ⟨by simp,by show r.1+(r.2++[byF f a]).length<=n;rw [List.length_append,List.length_singleton];omega,λ b hb'=> ?_⟩
    rcases List.mem_append.1 hb' with h8|h8
    . exact g3 b h8
    rw [List.mem_singleton.1 h8];exact hb
  |false=>
    rw [adj_f hj]
    refine ⟨by rw [sumL_app,h1,h.sum],by rw [List.length_append,List.length_singleton];have:=h.len;omega,λ x hx=> ?_⟩
    rcases List.mem_append.1 hx with h9|h9
    . exact h.ok x h9
    rw [List.mem_singleton] at h9
    subst h9;exact ⟨Nat.le_refl _,by show a+1<=n;omega,λ b hb'=>by rw [List.mem_singleton.1 hb'];exact hb⟩
theorem runP_all {M:MS}{n:Nat}{k:Bool}{f:TF}(hM:MF M n f):∀i,i<=(adrF n k f).length->RunP n i (runsL f ((adrF n k f).take i))
  |0,_=>⟨rfl,Nat.le_refl _,λ r h=>(by cases h)⟩
  |i+1,h=>by
    rw [runs_next (out:=runsL f ((adrF n k f).take i)) rfl oqz]
    obtain ⟨c,hf,_,hn⟩:=adr_at (n:=n) (k:=k) (f:=f) (i:=i) oqz;exact runP_step (runP_all hM i oqz) hn (by rw [byF_some hf];exact hM.by_ _ _ hf)
theorem runP_F {M:MS}{n:Nat}{k:Bool}{f:TF}(hM:MF M n f):RunP n (adrF n k f).length (runsF n k f):=by
  have:=runP_all (k:=k) hM (adrF n k f).length (Nat.le_refl _);rw [List.take_length] at this;exact this
theorem extX_xw {n:Nat}{L:List (Nat×List Nat)}(h:RunW n L)(hn:n<=4194304):∀x∈extX L,XW x:=λ x hx=>by
  obtain ⟨r,hr,rfl⟩:=List.mem_map.1 hx;obtain ⟨_,h2,_⟩:=h r hr;exact ⟨by show-9223372036854775808<=(r.1:Int)/\ (r.1:Int)<=9223372036854775807;omega,by show-9223372036854775808<=(r.2.length:Int)/\ (r.2.length:Int)<=9223372036854775807;omega⟩
theorem gd_stoL {n k m:Nat}:∀{L:List (Nat×List Nat)} {s:DevS},RunW m L->Gd n (k+sumL L) s->Gd n k (stoL L s).2
  |[],s,_,h=>h.le oqz
  |r::l,s,hW,h=>by
    rw [sumL_cons] at h
    obtain ⟨_,_,hb⟩:=hW r (by simp);have h1:Gd n (k+sumL l) (sto (r.1:Nat) r.2 s).2:=gd_sto (h.le oqz) hb;rw [stoL_cons]
    split
    . exact h1.le oqz
    exact gd_stoL (λ x hx=>hW x (List.mem_cons_of_mem _ hx)) h1
theorem gd_fl1 {n k:Nat}{p:Int}{s:DevS}(h:Gd n k s):Gd n k (fl1 p s).2:=⟨(fl1_len _ _).trans h.len,fl1_room (e:=(fl1 p s).1) rfl h.wf h.room,fl1_wf h.wf⟩
theorem gd_flLs {n k:Nat}:∀{l:List Nat} {s:DevS},Gd n k s->Gd n k (flLs l s).2
  |[],s,h=>h
  |q::l,s,h=>by
    rw [flLs_cons]
    split
    . exact gd_fl1 h
    exact gd_flLs (gd_fl1 h)
theorem gd_writeT {n k m:Nat}{L:List (Nat×List Nat)}{s s2:DevS}{e:Int}(hw:writeT L s=(e,s2))(hW:RunW m L)(h:Gd n (k+sumL L) s):Gd n k s2:=by
  have h1:=gd_stoL hW h;have h2:(writeT L s).2=s2:=(by rw [hw]);rw [←h2]
  unfold writeT
  split
  . exact h1
  exact gd_flLs h1
section
variable {at_ sz n:Nat} {f:TF} {s s1 s2 s3 s4 s5:DevS} {e:Int}
theorem com_w1 (h1:writeT (runsF n true f) s=(e,s1))(he:e≠0):comS at_ sz n f s=((e,true),s1):=by unfold comS;rw [h1,if_pos he]
theorem com_00 (h1:writeT (runsF n true f) s=(0,s1))(hl:runsF n false f=[])(hf:runsF n true f=[]):comS at_ sz n f s=((0,true),s1):=by
  unfold comS;rw [h1,if_neg (by simp),if_pos hl,if_pos hf]
theorem com_0f (h1:writeT (runsF n true f) s=(0,s1))(hl:runsF n false f=[])(hf:runsF n true f≠[])(h2:fe s1=(e,s2)):comS at_ sz n f s=((e,true),s2):=by
  unfold comS;rw [h1,if_neg (by simp),if_pos hl,if_neg hf];simp only [];rw [h2]
theorem com_lw (h1:writeT (runsF n true f) s=(0,s1))(hl:runsF n false f≠[])(h2:writeS at_ sz (extX (runsF n false f)) s1=(e,s2))(he:e≠0):comS at_ sz n f s=((e,decide (e=5)),s2):=by
  unfold comS;rw [h1,if_neg (by simp),if_neg hl];simp only [];rw [h2,if_pos he]
theorem com_w2 (h1:writeT (runsF n true f) s=(0,s1))(hl:runsF n false f≠[])(h2:writeS at_ sz (extX (runsF n false f)) s1=(0,s2))(h3:writeT (runsF n false f) s2=(e,s3))(he:e≠0):comS at_ sz n f s=((e,true),s3):=by
  unfold comS;rw [h1,if_neg (by simp),if_neg hl];simp only [];rw [h2,if_neg (by simp)];simp only [];rw [h3,if_pos he]
theorem com_fe (h1:writeT (runsF n true f) s=(0,s1))(hl:runsF n false f≠[])(h2:writeS at_ sz (extX (runsF n false f)) s1=(0,s2))(h3:writeT (runsF n false f) s2=(0,s3))(h4:fe s3=(e,s4))(he:e≠0):comS at_ sz n f s=((e,true),s4):=by
  unfold comS;rw [h1,if_neg (by simp),if_neg hl];simp only [];rw [h2,if_neg (by simp)];simp only [];rw [h3,if_neg (by simp)];simp only [];rw [h4,if_pos he]
theorem com_cl (h1:writeT (runsF n true f) s=(0,s1))(hl:runsF n false f≠[])(h2:writeS at_ sz (extX (runsF n false f)) s1=(0,s2))(h3:writeT (runsF n false f) s2=(0,s3))(h4:fe s3=(0,s4))(h5:clearS at_ s4=(e,s5)):comS at_ sz n f s=((e,true),s5):=by
  unfold comS;rw [h1,if_neg (by simp),if_neg hl];simp only [];rw [h2,if_neg (by simp)];simp only [];rw [h3,if_neg (by simp)];simp only [];rw [h4,if_neg (by simp)];simp only [];rw [h5]
end
theorem del_c (M:MS)(a:Int):(M.del a).c=M.c:=by unfold MS.del;split<;>rfl
theorem del_sub (M:MS)(a:Int):(M.del a).D.Sublist M.D:=by
  unfold MS.del
  split
  . exact List.eraseIdx_sublist _ _
  exact List.Sublist.refl _
theorem wfM_del {M:MS}(h:WfM M)(a:Int):WfM (M.del a):=⟨h.keys.sublist ((del_sub M a).map _),h.born.sublist ((del_sub M a).map _),λ e he=>by rw [del_c];exact h.past e ((del_sub M a).subset he)⟩
theorem del_mem {M:MS}{e:ME}(h:WfM M)(he:e∈M.D):(M.del e.k).D.length<M.D.length/\∀x∈(M.del e.k).D,x.b≠e.b:=by
  obtain ⟨i,hi⟩:=mfind_mem h.keys he;obtain ⟨hil,hk,_⟩:=mfind_some hi;have hD:(M.del e.k).D=M.D.eraseIdx i:=(by unfold MS.del;rw [hi]);rw [hD]
  refine ⟨by rw [List.length_eraseIdx_of_lt hil];omega,λ x hx hxb=> ?_⟩
  have hei:M.D[i]=e:=by
    obtain ⟨j,hj,hje⟩:=List.mem_iff_getElem.1 he
    have hkk:(M.D.map ME.k)[i]? =(M.D.map ME.k)[j]? :=by
      rw [List.getElem?_map,List.getElem?_map,List.getElem?_eq_getElem hil,List.getElem?_eq_getElem hj]
      simp only [Option.map_some];rw [hk,hje]
    have hij:=(List.getElem?_inj (by simpa using hil) h.keys).1 hkk;subst hij;exact hje
  rw [List.mem_eraseIdx_iff_getElem] at hx
  obtain ⟨j,hj,hji,hjx⟩:=hx
  have hbb:(M.D.map ME.b)[i]? =(M.D.map ME.b)[j]? :=by
    rw [List.getElem?_map,List.getElem?_map,List.getElem?_eq_getElem hil,List.getElem?_eq_getElem hj]
    simp only [Option.map_some];rw [hei,hjx,hxb]
  exact hji ((List.getElem?_inj (by simpa using hil) h.born).1 hbb).symm
structure ByM (M:List Nat):Prop where
  len:M.length=1024
  by_:∀x∈M,x<256
def LogM (M:List Nat)(sz:Nat)(l:List (Int×Int))(I:List Nat):Prop:=nm ((I.drop 128).take 8)=l.length/\ (I.drop 192).take (needN l)=recsB M l/\ I.length=1024/\ Out 128 (128+sz) I M
theorem log_recordsM {M:List Nat}(hM:ByM M){sz:Nat}{l:List (Int×Int)}{s:DevS}(h1:128<=sz)(h2:sz%64=0)(h3:sz<=896)(hl:l.all (mayX 1024 128 sz)=true)(hN:needN l<=sz-64)(hw:WfD s)(hO:s.off=false)(hlen:s.ls.length=16)
    (hi:((imgS s).drop 128).take 8=((imgS s).drop 128).take 8) (hh:nm (((imgS s).drop 128).take 8)=l.length) (hr:((imgS s).drop 192).take (needN l)=recsB M l):recordsS 128 sz s=(oldsL M l,0):=
  records_of hw hO (by rw [hlen];exact ⟨by decide,by decide,h1,h2,by omega⟩) (by rw [hlen];exact hM.len) (by rw [hlen];exact hl) hN hh hr
theorem olds_okM {M:List Nat}(hM:ByM M){sz:Nat}{l:List (Int×Int)}{I:List Nat}(hl:l.all (mayX 1024 128 sz)=true)(hI:LogM M sz l I):∀x∈oldsL M l,mayX 1024 128 sz ((x.1:Int),((x.2.length:Nat):Int))=true/\ (∀b∈x.2,b<256)/\ x.2=(I.drop x.1).take x.2.length:=λ x hx=>by
  obtain ⟨y,hy,rfl⟩:=olds_mem hx;have hm:=List.all_eq_true.1 hl y hy;obtain ⟨p,m,rfl,y1,y2,y3,y4⟩:=may_nat hm;have hml:=hM.len;have hol:((M.drop p).take m).length=m:=(by rw [List.length_take,List.length_drop];omega)
  simp only [Int.toNat_natCast]
  refine ⟨by rw [hol];exact hm,λ b hb=>hM.by_ b (List.mem_of_mem_drop (List.mem_of_mem_take hb)), ?_⟩;rw [hol]
  exact (out_sub hI.2.2.2 oqz).symm
theorem olds_inM {M:List Nat}(hM:ByM M){sz i:Nat}{l:List (Int×Int)}(hl:l.all (mayX 1024 128 sz)=true)(h:InX (oldsL M l) i):i<128∨128+sz<=i:=by
  obtain ⟨x,hx,h1,h2⟩:=h;obtain ⟨y,hy,rfl⟩:=olds_mem hx;obtain ⟨p,m,rfl,y1,y2,y3,y4⟩:=may_nat (List.all_eq_true.1 hl y hy);have hml:=hM.len
  simp only [Int.toNat_natCast,List.length_take,List.length_drop] at h1 h2
  omega
theorem sum_oldsM {M:List Nat}(hM:ByM M){sz:Nat}:∀{l:List (Int×Int)},l.all (mayX 1024 128 sz)=true->sumL (oldsL M l)<=needN l
  |[],_=>Nat.zero_le _
  |x::l,hl=>by
    rw [List.all_cons,Bool.and_eq_true] at hl
    obtain ⟨p,m,rfl,y1,y2,y3,y4⟩:=may_nat hl.1;have ih:=sum_oldsM hM hl.2;have e:oldsL M (((p:Int),(m:Int))::l)=(p,(M.drop p).take m)::oldsL M l:=rfl;rw [e,sumL_cons,needN_cons]
    simp only [Int.toNat_natCast,List.length_take]
    have:=up8_le m
    omega
theorem as_recordsM {M:List Nat}(hM:ByM M){sz:Nat}{l:List (Int×Int)}{I:List Nat}{s:DevS}(h1:128<=sz)(h2:sz%64=0)(h3:sz<=896)(hl:l.all (mayX 1024 128 sz)=true)(hN:needN l<=sz-64)(hI:LogM M sz l I)(hA:AS (oldsL M l) I s)(hO:s.off=false)(hlen:s.ls.length=16):recordsS 128 sz s=(oldsL M l,0):=by
  have hno:∀i,128<=i->i<128+sz->¬InX (oldsL M l) i:=λ i a b hin=>by rcases olds_inM hM hl hin with h|h<;>omega
  refine log_recordsM hM h1 h2 h3 hl hN hA.wf hO hlen rfl ?_ ?_
  . rw [hA.sub (λ i a b=>hno i a oqz)];exact hI.1
  rw [hA.sub (λ i a b=>hno i oqz oqz)];exact hI.2.1
theorem as_rollM {M:List Nat}(hM:ByM M){sz:Nat}{l:List (Int×Int)}{I:List Nat}{s:DevS}(h1:128<=sz)(h2:sz%64=0)(h3:sz<=896)(hl:l.all (mayX 1024 128 sz)=true)(hN:needN l<=sz-64)(hne:l≠[])(hI:LogM M sz l I)(hA:AS (oldsL M l) I s)(hO:s.off=false)(hlen:s.ls.length=16)(hr:Room (needN l+1) s):
    ∃k e s2,rollS 128 sz s=((k,e),s2)/\ s2.ls.length=16/\ ((e=0/\ k=l.length/\ s2.off=false/\ WfD s2/\ Cln s2/\ imgS s2=spl I 128 (le 8 0))∨(e=5/\ s2.off=true/\ ((AS (oldsL M l) I s2/\ Cln s2)∨(WfD s2/\ Cln s2/\ imgS s2=spl I 128 (le 8 0))))):=by
  have hs:=sum_oldsM hM hl
  have:=roll_loss (at_:=128) (sz:=sz) hA hO (by rw [hlen];exact ⟨by decide,by decide,h1,h2,by omega⟩) (λ l hl=>by have:=hr l hl;omega) (by
    intro e;apply hne;have:=congrArg List.length e
    unfold oldsL at this;rw [List.length_map] at this;exact List.eq_nil_of_length_eq_zero this) (as_recordsM hM h1 h2 h3 hl hN hI hA hO hlen) (by rw [hlen];exact olds_okM hM hl hI)
  rw [hlen] at this
  have hll:(oldsL M l).length=l.length:=(by unfold oldsL;rw [List.length_map]);rw [hll] at this
  exact this
attribute [local irreducible] crk crL crc Sl pt ro Dev imgS recS readS recsF rdW rdO rkT Parts rvl recordsS runsL adrF kcl xcl kys runA runsF layF linR flLs stoL writeT writeS comS clearS extX
theorem Zef {p r:Prop}(k:r)(h:Kq r->p:=by intro k;refine tc_goto ?_;refine q_then_g (q_sc_g ?_);exact k.o):p:=h ⟨k⟩
theorem Commit12_c {A R:SP}{C:SP->SP}{t p lg d mb at_ sz:Nat}{M:MS}{s:DevS}(hc:Ct A (TxA t p lg d mb at_ sz M false s) R C:=by exact cbqz){n:Nat}{f:TF}(hM:MF M n f)(hn:n=s.ls.length*64:=by omega)(hlw:LogW (s.ls.length*64) at_ sz:=by assumption)(ho:s.off=false:=by assumption)(hroom:Room (2*n+sz+8) s:=by assumption):
    Fn Tryz.prog 32 #[pz t] A (λ r B=>∃e b s2 M2,comS at_ sz n f s=((e,b),s2)/\ r= .int .i64 e/\ MF M2 n (if b=true then tf0 else f)/\ B=C (TxA t p lg d mb at_ sz M2 b s2)):=by
  refine fn_enterW func32 rfl ntmps32 (by simp) ?_;obtain ⟨rfl,hC⟩:=hc;refine tc_eq (show _=R*pt p (cl (pocs lg d (some t)) 110)*pt lg (cl (lcs11 d at_ sz) 99)*Dev d s*pt t (cl (txcs p mb false) 113)*pt mb (mpo .i64 M) by unfold TxA;rw [if_neg (by decide)];ac_rfl) ?_;refine tc_have (λ _ _ h=>ct_wf2 ctqz h) λ hwf=> ?_
  have htop:=hwf.top;obtain ⟨LF,hLF⟩:∃L,runsF n true f=L:=⟨_,rfl⟩;obtain ⟨LL,hLL⟩:∃L,runsF n false f=L:=⟨_,rfl⟩;have hPF:=runP_F (k:=true) hM;have hPL:=runP_F (k:=false) hM;rw [hLF] at hPF
  rw [hLL] at hPL
  have haf:=adr_len n true f;have hal:=adr_len n false f;have hg0:Gd s.ls.length (2*n+sz+8) s:=⟨rfl,hroom,hwf⟩;have hfs:=hPF.sum;have hfl:=hPF.len;have hls:=hPL.sum;have hll:=hPL.len;obtain ⟨w1,w2,w3,w4,w5⟩:=id hlw;refine Zy ?_;refine tc_scope (l:=0) (λ ρ BB=>∃ (e_:Int) (sE:DevS),(comS at_ sz n f s=((e_,true),sE))/\ ρ 3= .int .i64 e_/\ ρ 0=(pz t)/\ Dr BB (R*pt p (cl (pocs lg d (some t)) 110)*pt lg (cl (lcs11 d at_ sz) 99)*Dev d sE*pt t (cl (txcs p mb false) 113)*pt mb (mpo .i64 M))) rfl ?_ ?_
  . intro ρ B hI;obtain ⟨e_,sE,hcm0,hE3,hE0,hBA⟩:=hI;refine tc_pre hBA.sat ?_;clear hBA;refine te 3 hE3 ?_;refine te 0 hE0 ?_;refine Zi ?_;refine Zeh ?_;refine tl_x rfl (o_range (ik:= .i64) (M:=M) underlying111 rfl hsqz) ?_;rintro _ _ ⟨r75,rfl,rfl⟩;refine nq ?_;refine tc_block ?_;refine tc_loop (λ kk ρ BB=>∃ (M1:MS) (seen:List Nat),(WfM M1)/\ (∀x∈M1.D,x.b∉seen)/\ kk=M1.D.length/\ ρ 0=(pz t)/\ ρ 3= .int .i64 e_/\ ρ 75=(pz r75)/\ Dr BB (R*pt p (cl (pocs lg d (some t)) 110)*pt lg (cl (lcs11 d at_ sz) 99)*Dev d sE*pt t (cl (txcs p mb false) 113)*pt mb (mpo .i64 M1)*pt r75 (mit mb M1.c seen M1.c))) (m:=(M).D.length) ?_ ?_
    . exact ⟨M,[],hM.wf,λ x _ h=>(by cases h),rfl,rfl,rfl,rfl,drqz⟩
    intro k ρ B hI;obtain ⟨M1,seen,hp0,hp1,hkk1,hE0,hE3,hE75,hBA⟩:=hI;refine tc_pre hBA.sat ?_;clear hBA;refine te 0 hE0 ?_;refine te 3 hE3 ?_;refine te 75 hE75 ?_;refine sr ?_;refine tl_x rfl (o_next (ik:= .i64) (M:=M1) (b:=mb) (seen:=seen) hp0 rfl ctqz hsqz) ?_;rintro _ _ ⟨o76,hnx,rfl,rfl⟩;refine tv (o_exNx rfl) ?_;refine Zfr ?_;refine tc_cond rfl (λ h=> ?_) (λ h=> ?_)
    . obtain ⟨e,rfl⟩:∃e,o76=some e:=Option.isSome_iff_exists.1 (by simpa using h);have hem:=(hnx.yes e rfl).1;refine tc_eq (show _=R*pt p (cl (pocs lg d (some t)) 110)*pt lg (cl (lcs11 d at_ sz) 99)*Dev d sE*pt t (cl (txcs p mb false) 113)*pt mb (mpo .i64 M1)*pt r75 (mit mb M1.c (seen++[e.b]) M1.c) from rfl) ?_;refine Zc ?_;refine tc_block ?_;refine sr ?_;refine tv (o_entry (ik:= .i64) (M:=M1) (b:=mb) (seen:=seen) hp0 hem rfl hsqz hsqz) ?_;refine tv (o_extract rfl rfl) ?_;refine Za ?_;refine Zbq ?_;refine Zeh ?_;refine tlm ?_;refine tl_x rfl (o_delete (ik:= .i64) (M:=M1) underlying111 underlying3 rfl rfl upqz rfl) ?_;rintro _ _ ⟨rfl,rfl⟩;refine tl_nil ?_;refine q_block_n (q_then_n ?_);exact ⟨_,(by have:=(del_mem hp0 hem).1;omega),M1.del e.k,seen++[e.b],wfM_del hp0 _,λ x hx h=>(by rcases List.mem_append.1 h with h9|h9;exact hp1 x ((del_sub _ _).subset hx) h9;exact (del_mem hp0 hem).2 x hx (List.mem_singleton.1 h9)),rfl,rfl,rfl,rfl,by rw [del_c];repeat (first|with_reducible exact dr_refl|apply dr_keep|apply dr_drop)⟩
    obtain rfl:o76=none:=by cases o76<;>simp at h ⊢
    refine Zde ?_;refine tl_c rfl (o_call bd101 rfl (end12_c (R:=R*pt lg (cl (lcs11 d at_ sz) 99)*Dev d sE*pt r75 (mit mb M1.c seen M1.c)) (p:=p) (lg:=lg) (d:=d) (mb:=mb) (M:=M1) (over:=false) (hA:=by first|rfl|ac_rfl))) ?_;refine Zez ?_;refine Zb ?_;refine Zh ?_;refine q_sc_r ?_;exact ⟨.int .i64 e_,C (TxA t p lg d mb at_ sz M1.clr true sE),res1 rfl rfl,(λ g w h=>by rw [hC];exact (Dr.sat (A':=R*pt lg (cl (lcs11 d at_ sz) 99)*Dev d sE*pt p (cl (pocs lg d none) 110)*pt t (cl (txcs p mb true) 113)*pt mb (mpo .i64 M1.clr)) drqz g w h).perm (by unfold TxA;rw [if_pos rfl];ac_rfl)),e_,true,sE,M1.clr,hcm0,rfl,by rw [if_pos rfl];exact mf_nil _ _,rfl⟩
  intro hsc;refine Zb ?_;refine tl_c rfl (o_call bd95 rfl (begun12_c (s:=s))) ?_;rintro _ _ ⟨rfl,rfl⟩;refine Zbe ?_;refine Zci ?_;intro h;refine Zbf ?_;refine Zdc ?_;refine Z9 ?_;refine tv (o_load p47 rfl hsqz rfl) ?_;refine Z6 ?_;refine tl_c rfl (o_call bd96 rfl (runs12_w (kd:=true) (M:=M) (over:=false) (p:=p) hsqz hsqz hM oqz hLF)) ?_;rintro _ _ ⟨a22,c22,vf,rfl,hc22,hvf,rfl⟩;refine tl_have (λ _ _ h=>parts_getD hvf h.left) λ hpf=> ?_
  refine tlm ?_;refine tl_c rfl (o_call bd96 rfl (runs12_w (kd:=false) (M:=M) (over:=false) (p:=p) hsqz hsqz hM oqz hLL)) ?_;rintro _ _ ⟨a24,c24,vl,rfl,hc24,hvl,rfl⟩;refine tl_have (λ _ _ h=>parts_getD hvl h.left) λ hpl=> ?_
  refine tlm ?_;refine tl_c rfl (o_call bd49 rfl (Extents12_c (M:=M) (p:=p) (L:=LL) (ht:=(by repeat (first|with_reducible exact has_here|with_reducible exact has_pt|apply has_left))) (hmb:=(by repeat (first|with_reducible exact has_here|with_reducible exact has_pt|apply has_left))) (hM:=hM) (hX:=hLL) (hLl:=by omega))) ?_;rintro _ _ ⟨a26,c26,rfl,hc26,rfl⟩;refine tla ?_;refine tla ?_;refine Zbe ?_;refine tlm ?_;refine tl_c rfl (o_call bd97 rfl (write12_c (s:=s) (n:=n) (L:=LF) (vs:=vf) (a:=a22) (hr:=(by repeat (first|with_reducible exact rs_sl|apply Rs.left))) (hvs:=hvf) (hps:=by repeat (first|exact psr_of hvf hpf (λ x hx=>by have h9:=(hPF.ok x hx).2.1;omega)|apply PsR.left)) (hcp:=hpf) (hW:=hPF.ok) (hn:=by have h9:=hg0.len;omega) (hm:=rfl) (hml:=by have h9:=hPF.len;omega) (hroom:=(hg0.le oqz).room))) ?_;rintro _ _ ⟨e29,s29,hs29,rfl,rfl⟩;have hg1:Gd s.ls.length (n+sz+8) s29:=gd_writeT hs29 hPF.ok (hg0.le oqz);have hg1l:=hg1.len;refine Zfz ?_;refine tc_cond rfl (λ h=> ?_) (λ h=> ?_)
  . have he29:e29≠0:=(by simpa using h);have hcm9:comS at_ sz n f s=((e29,true),s29):=com_w1 (by rw [hLF];exact hs29) he29;refine Zef ?_;exact ⟨_,_,hcm9,rfl,rfl,drqz⟩
  obtain rfl:e29=0:=by simpa using h
  refine Zc8 ?_;refine tv (o_len underlying169 rfl) ?_;refine Zd5 ?_;refine tc_cond rfl (λ h=> ?_) (λ h=> ?_)
  . have hll0:LL=[]:=List.eq_nil_of_length_eq_zero (by first|(have h9:=of_decide_eq_true h;omega)|(simp at h;omega));refine Zi ?_;refine tv (o_len underlying169 rfl) ?_;refine Zdo ?_;refine tc_cond rfl (λ h=> ?_) (λ h=> ?_)
    . have hlf0:LF≠[]:=λ e=>by subst e;simp at h
      refine Zbq ?_;refine tl_c rfl (o_call bd98 rfl (Fence_c (s:=s29))) ?_;rintro _ _ ⟨e39,s39,hs39,rfl,rfl⟩;have hcm9:comS at_ sz n f s=((e39,true),s39):=com_0f (by rw [hLF];exact hs29) (by rw [hLL];exact hll0) (by rw [hLF];exact hlf0) hs39;refine Za ?_;refine Zef ?_;exact ⟨_,_,hcm9,rfl,rfl,drqz⟩
    have hlf0:LF=[]:=List.eq_nil_of_length_eq_zero (by first|(have h9:=of_decide_eq_false h;omega)|(simp at h;omega));have hcm9:comS at_ sz n f s=((0,true),s29):=com_00 (by rw [hLF];exact hs29) (by rw [hLL];exact hll0) (by rw [hLF];exact hlf0);refine Zc ?_;refine Zef ?_;exact ⟨_,_,hcm9,rfl,rfl,drqz⟩
  have hll0:LL≠[]:=λ e=>by subst e;simp at h
  refine Zc8 ?_;refine Zdc ?_;refine Zcz ?_;refine tv (o_load p89 rfl hsqz rfl) ?_;refine tlm ?_;refine tl_c rfl (o_call bd99 rfl (Write_c (s:=s29) (xs:=extX LL) (hr:=(by repeat (first|with_reducible exact rs_sl|apply Rs.left))) (hm:=ext_len LL) (hX:=extX_xw hPL.ok oqz) (hlw:=by rw [hg1l];exact hlw) (hml:=by omega) (hroom:=(hg1.le oqz).room))) ?_;rintro _ _ ⟨e48,s48,hs48,rfl,rfl⟩;have hg2:Gd s.ls.length (n+4) s48:=(by have h9:=gd_write (at_:=at_) (sz:=sz) (k:=n+4) (l:=extX LL) (hg1.le oqz) (by rw [ext_len];omega);rw [hs48] at h9;exact h9);have hg2l:=hg2.len;refine Zfz ?_;refine tc_cond rfl (λ h=> ?_) (λ h=> ?_)
  . have he48:e48≠0:=(by simpa using h);refine Zi ?_;refine Zx ?_;refine tc_cond rfl (λ h=> ?_) (λ h=> ?_)
    . have he5:e48≠5:=(by simpa using h);refine Zb ?_;refine Zh ?_;refine q_then_r (q_then_r (q_sc_r ?_));exact ⟨.int .i64 e48,C (TxA t p lg d mb at_ sz M false s48),res1 rfl rfl,(λ g w h=>by rw [hC];exact (Dr.sat (A':=R*pt p (cl (pocs lg d (some t)) 110)*pt lg (cl (lcs11 d at_ sz) 99)*Dev d s48*pt t (cl (txcs p mb false) 113)*pt mb (mpo .i64 M)) drqz g w h).perm (by unfold TxA;rw [if_neg (by decide)];ac_rfl)),e48,false,s48,M,by rw [com_lw (by rw [hLF];exact hs29) (by rw [hLL];exact hll0) (by rw [hLL];exact hs48) he48,decide_eq_false he5],rfl,hM,rfl⟩
    obtain rfl:e48=5:=by simpa using h
    have hcm9:comS at_ sz n f s=((5,true),s48):=com_lw (by rw [hLF];exact hs29) (by rw [hLL];exact hll0) (by rw [hLL];exact hs48) (by decide);refine Zc ?_;refine Zef ?_;exact ⟨_,_,hcm9,rfl,rfl,drqz⟩
  obtain rfl:e48=0:=by simpa using h
  refine Zc8 ?_;refine tlm ?_;refine tl_c rfl (o_call bd97 rfl (write12_c (s:=s48) (n:=n) (L:=LL) (vs:=vl) (a:=a24) (hr:=(by repeat (first|with_reducible exact rs_sl|apply Rs.left))) (hvs:=hvl) (hps:=by repeat (first|exact psr_of hvl hpl (λ x hx=>by have h9:=(hPL.ok x hx).2.1;omega)|apply PsR.left)) (hcp:=hpl) (hW:=hPL.ok) (hn:=by have h9:=hg2.len;omega) (hm:=rfl) (hml:=by have h9:=hPL.len;omega) (hroom:=(hg2.le oqz).room))) ?_;rintro _ _ ⟨e56,s56,hs56,rfl,rfl⟩;have hg3:Gd s.ls.length 4 s56:=gd_writeT hs56 hPL.ok (hg2.le oqz);have hg3l:=hg3.len;refine Zfz ?_;refine tc_cond rfl (λ h=> ?_) (λ h=> ?_)
  . have he56:e56≠0:=(by simpa using h);have hcm9:comS at_ sz n f s=((e56,true),s56):=com_w2 (by rw [hLF];exact hs29) (by rw [hLL];exact hll0) (by rw [hLL];exact hs48) (by rw [hLL];exact hs56) he56;refine Zef ?_;exact ⟨_,_,hcm9,rfl,rfl,drqz⟩
  obtain rfl:e56=0:=by simpa using h
  refine Zc8 ?_;refine tl_c rfl (o_call bd98 rfl (Fence_c (s:=s56))) ?_;rintro _ _ ⟨e60,s60,hs60,rfl,rfl⟩;have hg4:Gd s.ls.length 4 s60:=(by have h9:=gd_fe hg3;rw [hs60] at h9;exact h9);have hg4l:=hg4.len;refine Zfz ?_;refine tc_cond rfl (λ h=> ?_) (λ h=> ?_)
  . have he60:e60≠0:=(by simpa using h);have hcm9:comS at_ sz n f s=((e60,true),s60):=com_fe (by rw [hLF];exact hs29) (by rw [hLL];exact hll0) (by rw [hLL];exact hs48) (by rw [hLL];exact hs56) hs60 he60;refine Zef ?_;exact ⟨_,_,hcm9,rfl,rfl,drqz⟩
  obtain rfl:e60=0:=by simpa using h
  refine Zbf ?_;refine Zdc ?_;refine Zcz ?_;refine tv (o_load p89 rfl hsqz rfl) ?_;refine tl_c rfl (o_call bd100 rfl (Clear_c (s:=s60) (hlw:=by rw [hg4l];exact hlw) (hroom:=(hg4.le oqz).room))) ?_;rintro _ _ ⟨e70,s70,hs70,rfl,rfl⟩;have hcm9:comS at_ sz n f s=((e70,true),s70):=com_cl (by rw [hLF];exact hs29) (by rw [hLL];exact hll0) (by rw [hLL];exact hs48) (by rw [hLL];exact hs56) hs60 hs70;refine Za ?_;refine tc_fall hsc ?_;exact ⟨_,_,hcm9,rfl,rfl,drqz⟩
end Go.Vl

namespace Go.Vl
open Go Go.Proofs Go.Proofs.Tryz
theorem lw12 {s:DevS}(h:s.ls.length=16):LogW (s.ls.length*64) 128 576:=by rw [h];exact ⟨by decide,by decide,by decide,by decide,by decide⟩
def fW1:TF:=layF 64 [1,2,3] false tf0
def fW:TF:=layF 66 [9,9] true fW1
theorem fW_ext:xcl (extX [(64,[1,2,9])])=ints [64,3]:=rfl
theorem fW1_eq:layF 64 [1,2,3] false tf0=fW1:=rfl
theorem fW_eq:layF 66 [9,9] true fW1=fW:=rfl
theorem fW_runs:runsF 1024 false fW=[(64,[1,2,9])]/\ runsF 1024 true fW=[(67,[9])]:=by decide+kernel
theorem fW_com:(comS 128 576 1024 fW (newS 16)).1=(0,true):=by decide+kernel
theorem fW_img:(((imgS (comS 128 576 1024 fW (newS 16)).2).drop 64).take 5)=[1,2,9,9,0]:=by decide+kernel
theorem fW_off:(comS 128 576 1024 fW (newS 16)).2.off=false:=by decide+kernel
theorem fW_len:(comS 128 576 1024 fW (newS 16)).2.ls.length=16:=by decide+kernel
theorem fW_stp:stpS 128 576 (comS 128 576 1024 fW (newS 16)).2=0:=by decide+kernel
theorem new_off (n:Nat):(newS n).off=false:=rfl
theorem new_ops (n:Nat):(newS n).ops=0:=rfl
theorem new_len (n:Nat):(newS n).ls.length=n:=by simp [newS]
theorem new_stp:stpS 128 576 (newS 16)=0:=by decide+kernel
theorem fW_ov:ovF fW 64 (((imgS (newS 16)).drop 64).take 5)=[1,2,9,9,0]:=by decide+kernel
theorem new_room:Room (2*1024+576+8) (newS 16):=λ l hl=>by
  simp only [newS,List.mem_replicate] at hl;rw [hl.2];decide
attribute [local irreducible] crk crL crc Sl pt ro Dev imgS recS readS recsF rdW rdO rkT Parts rvl recordsS runsL adrF kcl xcl kys runA runsF layF linR flLs stoL writeT writeS comS clearS extX
theorem opened12_c {A R:SP}{C:SP->SP}{d:Nat}{s:DevS}(hc:Ct A (Dev d s) R C:=by exact cbqz)(hls:s.ls.length=16:=by assumption):
    Fn Tryz.prog 90 #[pz d] A (λ r B=>∃lg p,r=(pz p)/\ B=A*pt lg (cl (lcs11 d 128 576) 99)*pt p (cl (pocs lg d none) 110)):=by
  refine fn_enterW func90 rfl ntmps90 (by simp) ?_;refine Zd2 ?_;refine tl_c rfl (o_call bd38 rfl (Open_ok (hc:=hc) (p:=128) (q:=576) (hok:=by rw [hls];omega))) ?_;rintro _ _ ⟨b8,rfl,rfl⟩;refine Zf1 ?_;refine Zci ?_;intro h;refine Zf2 ?_;refine tl_c rfl (o_call bd39 rfl (New12_c (hc:=ct_left hc) (at_:=128) (sz:=576) (hl:=has_here) (hlw:=lw12 hls))) ?_;rintro _ _ ⟨p16,rfl,rfl⟩;refine Zf1 ?_;refine Zci ?_;intro h;refine Zbf ?_;refine Zh ?_;exact ⟨_,_,res1 rfl rfl,Dr.sat drqz,b8,p16,rfl,rfl⟩
end Go.Vl

namespace Go.Vl
open Go Go.Proofs Go.Proofs.Tryz
theorem sq4z {p:Prop}(h:p:=by repeat (first|with_reducible exact rs_sl|with_reducible exact rs_pt0|apply Rs.left)):p:=h
section
variable {A R:SP} {C:SP->SP} {t p lg d mb at_ sz:Nat} {M:MS} {over:Bool} {s:DevS} (hc:Ct A (TxA t p lg d mb at_ sz M over s) R C)
include hc
theorem txa_dev:Ct A (Dev d s) (R*pt p (cl (pocs lg d (if over then none else some t)) 110)*pt lg (cl (lcs11 d at_ sz) 99)*pt t (cl (txcs p mb over) 113)*pt mb (mpo .i64 M)) (λ Y=>R*pt p (cl (pocs lg d (if over then none else some t)) 110)*pt lg (cl (lcs11 d at_ sz) 99)*pt t (cl (txcs p mb over) 113)*pt mb (mpo .i64 M)*Y):=
  ⟨by rw [hc.1];unfold TxA;ac_rfl,λ _=>rfl⟩
theorem txa_t:Has A t (cl (txcs p mb over) 113):=λ g w h=>by
  rw [hc.1] at h;unfold TxA at h;exact has_pt g w (h.right.left.right)
theorem txa_mb:Has A mb (mpo .i64 M):=λ g w h=>by
  rw [hc.1] at h;unfold TxA at h;exact has_pt g w (h.right.right)
end
theorem com_eq {x:(Int×Bool)×DevS}{e:Int}{b:Bool}{s:DevS}(h:x=((e,b),s))(h1:x.1=(0,true)):e=0/\ b=true:=by rw [h] at h1;simpa using h1
attribute [local irreducible] crk crL crc Sl pt ro Dev imgS recS readS recsF rdW rdO rkT Parts rvl recordsS runsL adrF kcl xcl kys runA runsF layF linR flLs stoL writeT writeS comS clearS extX ovF newS fW fW1
theorem CommitO_c {A:SP}{p t mb:Nat}(ht:Has A t (cl (txcs p mb true) 113):=by exact hbqz):
    Fn Tryz.prog 32 #[pz t] A (λ r B=>r= .int .i64 3/\ A=B):=by
  refine fn_enterW func32 rfl ntmps32 (by simp) ?_;refine Zy ?_;refine tc_scope (l:=0) (λ _ _=>False) rfl (λ _ _ h=>h.elim) ?_;intro hsc;refine Zb ?_;refine tl_c rfl (o_call bd95 rfl (begunO_c (ht:=ht))) ?_;rintro _ _ ⟨rfl,rfl⟩;refine Zbe ?_;refine Zx ?_;refine tc_cond rfl (sbq ?_) dbq;intro h;refine Zb ?_;refine Zh ?_;refine q_then_r (q_sc_r ?_);exact ⟨.int .i64 3,_,res1 rfl rfl,Dr.sat drqz,rfl,rfl⟩
theorem Zds {p r:Prop}(k:r)(h:Kq r->p:=by intro k;refine Zv ?_;refine Zm ?_;exact k.o):p:=h ⟨k⟩
theorem works_c {A:SP}:
    Fn Tryz.prog 27 #[] A (λ r B=>r= .bool true/\ A=B):=by
  refine fn_enterW func27 rfl ntmps27 (by simp) ?_;have hl0:(newS 16).ls.length=16:=new_len 16;have ho0:(newS 16).off=false:=new_off 16;refine Zy ?_;refine sr ?_;refine tl_c rfl (o_call bd37 rfl (New_c (n:=16))) ?_;rintro _ _ ⟨d1,rfl,rfl⟩;refine Zfv ?_;refine tl_c rfl (o_call bd90 rfl (opened12_c (s:=newS 16))) ?_;rintro _ _ ⟨lg1,p1,rfl,rfl⟩;refine Zbe ?_;refine Zb1 ?_;refine tl_bool (d:=17) rfl dbq (sbq ?_);intro h;refine tlm ?_;refine tv (o_eqp underlying69 rfl rfl) ?_;refine Zbj ?_;refine tl_bool (d:=21) rfl dbq (sbq ?_);intro h;refine tlm ?_;refine tl_c rfl (o_call bd44 rfl (State12_c (s:=newS 16) (at_:=128) (sz:=576) (hl:=by exact hbqz) (hp:=by exact hbqz) (hlw:=lw12 hl0))) ?_;rintro _ _ ⟨rfl,rfl⟩;refine tl_env (d:=23) (v:= .int .i64 0) (by show Value.int .i64 (stpS _ _ _)=_;rw [new_stp]) ?_;refine Zv ?_;refine tlm ?_;refine tl_bool (d:=26) rfl dbq (sbq ?_);intro h;refine tlm ?_;refine tl_c rfl (o_call bd45 rfl (Size12_c (s:=newS 16))) ?_;rintro _ _ ⟨rfl,rfl⟩;refine tl_env (d:=28) (v:= .int .i64 1024) (by show Value.int .i64 _=_;rw [hl0];rfl) ?_;refine Zds ?_;intro h;refine Zbf ?_;refine tl_c rfl (o_call bd42 rfl (Begin12_ok (C:=λ Y=>Y) (R:=A) (s:=newS 16) (at_:=128) (sz:=576) (p:=p1) (lg:=lg1) (d:=d1) (hA:=by ac_rfl) (hlw:=lw12 hl0) (ho:=ho0) (hst:=new_stp))) ?_;rintro _ _ ⟨t1,mb1,rfl,rfl⟩;refine Zf1 ?_;refine Zb1 ?_;refine tl_bool (d:=38) rfl dbq (sbq ?_);intro h;refine tlm ?_;refine tv (o_eqp underlying62 rfl rfl) ?_;refine Zbj ?_;refine tl_bool (d:=42) rfl dbq (sbq ?_);intro h;refine tlm ?_;refine tl_x rfl (o_buildSliceL (k:=1) (vs:=bys [1,2,3]) (l:=bys [1,2,3]) underlying57 sz5 z5 rfl rfl (by decide) (by decide) (by intro v hv;simp only [bys,b8,List.map_cons,List.map_nil,List.mem_cons,List.not_mem_nil,or_false] at hv;rcases hv with rfl|rfl|rfl<;>rfl) rfl) ?_;rintro _ _ ⟨b44,rfl,rfl⟩;refine tl_c rfl (o_call bd46 rfl (StoreT_c (s:=newS 16) (n:=1024) (f:=tf0) (q:=64) (xs:=[1,2,3]) (hM:=mf_nil 0 1024) (hr:=(by repeat (first|with_reducible exact rs_sl|with_reducible exact rs_pt0|apply Rs.left))) (hm:=rfl) (hb:=by decide))) ?_;rintro _ _ ⟨M45,rfl,hM45,rfl⟩;rw [fW1_eq] at hM45
  refine Zv ?_;refine tlm ?_;refine tl_bool (d:=48) rfl dbq (sbq ?_);intro h;refine tlm ?_;refine tl_x rfl (o_buildSliceL (k:=1) (vs:=bys [9,9]) (l:=bys [9,9]) underlying57 sz5 z5 rfl rfl (by decide) (by decide) (by intro v hv;simp only [bys,b8,List.map_cons,List.map_nil,List.mem_cons,List.not_mem_nil,or_false] at hv;rcases hv with rfl|rfl<;>rfl) rfl) ?_;rintro _ _ ⟨b50,rfl,rfl⟩;refine tl_c rfl (o_call bd47 rfl (FreshT_c (s:=newS 16) (n:=1024) (f:=fW1) (q:=66) (xs:=[9,9]) (hM:=hM45) (hr:=(by repeat (first|with_reducible exact rs_sl|with_reducible exact rs_pt0|apply Rs.left))) (hm:=rfl) (hb:=by decide))) ?_;rintro _ _ ⟨M51,rfl,hM51,rfl⟩;rw [fW_eq] at hM51
  refine Zv ?_;refine tlm ?_;refine tl_bool (d:=54) rfl dbq (sbq ?_);intro h;refine tlm ?_;refine tl_c rfl (o_call bd56 rfl (Ops_c (hc:=txa_dev ctqz))) ?_;rintro _ _ ⟨rfl,rfl⟩;refine tl_env (d:=56) (v:= .int .i64 0) (by show Value.int .i64 _=_;rw [new_ops]) ?_;refine Zds ?_;intro h;refine Zbf ?_;refine tl_c rfl (o_call bd49 rfl (Extents12_c (M:=M51) (p:=p1) (L:=[(64,[1,2,9])]) (ht:=txa_t ctqz) (hmb:=txa_mb ctqz) (hM:=hM51) (hX:=fW_runs.1) (hLl:=by decide))) ?_;rintro _ _ ⟨a60,c60,rfl,hc60,rfl⟩;rw [fW_ext]
  refine Z6 ?_;refine tl_c rfl (o_call bd43 rfl (LoadT_c (s:=newS 16) (f:=fW) (q:=64) (m:=5) (hM:=hM51))) ?_;rintro _ _ ⟨a63,c63,rfl,hc63,rfl⟩;refine Zf1 ?_;refine Zb1 ?_;refine tl_bool (d:=68) rfl dbq (sbq ?_);intro h;refine tlm ?_;refine tl_x rfl (o_buildSliceL (k:=1) (vs:=bys [1,2,9,9,0]) (l:=bys [1,2,9,9,0]) underlying57 sz5 z5 rfl rfl (by decide) (by decide) (by intro v hv;simp only [bys,b8,List.map_cons,List.map_nil,List.mem_cons,List.not_mem_nil,or_false] at hv;rcases hv with rfl|rfl|rfl|rfl|rfl<;>rfl) rfl) ?_;rintro _ _ ⟨b70,rfl,rfl⟩;refine tl_c rfl (o_call bd60 rfl (EqBytes_c (xs:=ovF fW 64 (((imgS (newS 16)).drop 64).take 5)) (ys:=[1,2,9,9,0]) (h1:=(by repeat (first|with_reducible exact rs_sl|with_reducible exact rs_pt0|apply Rs.left))) (h2:=show Rs _ _ (bys [1,2,9,9,0]) from by repeat (first|exact rs_pt rfl|apply Rs.left)) (hx:=by rw [fW_ov];rfl) (hy:=rfl))) ?_;rintro _ _ ⟨rfl,rfl⟩;refine tl_env (d:=71) (v:= .bool true) (by show Value.bool (decide _)=_;rw [decide_eq_true fW_ov]) ?_;refine tv (o_not rfl) ?_;refine Zbj ?_;refine tl_bool (d:=74) rfl dbq (sbq ?_);intro h;refine tlm ?_;refine tv (o_len underlying107 rfl) ?_;refine Zv ?_;refine tlm ?_;refine tl_bool (d:=79) rfl dbq (sbq ?_);intro h;refine tlm ?_;refine tv (o_ixP (j:=0) (a:=a60) underlying107 sz162 rfl rfl (by decide) (nn_rs (xs:=ints [64,3]) sq4z (λ _=>by decide))) ?_;refine tv (o_ldPN (a:=a60) (xs:=ints [64,3]) (vs:=ints [64,3]) a162 sz162 rfl sq4z rfl rfl (by decide)) ?_;refine tv (o_bS (l:=[_,_]) (pv_cons wqz (pv_cons wqz pv_nil)) underlying162 z162 (pl162 underlying162) rfl) ?_;refine tl_env (d:=83) (v:= .agg (ints [64,3]).toArray) (rfl) ?_;refine tv (o_nest (k:=2) (l:=[64,3]) (m:=[64,3]) underlying162 kqz kqz kqz rfl rfl rfl rfl) ?_;refine Zbj ?_;refine tl_bool (d:=86) rfl dbq (sbq ?_);intro h;refine tlm ?_;refine tl_c rfl (o_call bd32 rfl (Commit12_c (s:=newS 16) (at_:=128) (sz:=576) (n:=1024) (f:=fW) (hM:=hM51) (hlw:=lw12 hl0) (hroom:=new_room))) ?_;rintro _ _ ⟨e88,b88,s2,M2,hs88,rfl,hM88,rfl⟩;obtain ⟨rfl,rfl⟩:=com_eq hs88 fW_com;have hs2:(comS 128 576 1024 fW (newS 16)).2=s2:=(by rw [hs88]);have hst2:stpS 128 576 s2=0:=hs2▸fW_stp
  have ho2:s2.off=false:=hs2▸fW_off
  have hl2:s2.ls.length=16:=hs2▸fW_len
  have hi2:((imgS s2).drop 64).take 5=[1,2,9,9,0]:=hs2▸fW_img
  clear hs88 hs2;refine Zds ?_;intro h;refine Zei ?_;refine tc_pre (A':=A*TxA t1 p1 lg1 d1 mb1 128 576 M2 true s2) (λ _ _ h=>Dr.sat drqz _ _ h) ?_;refine tc_eq (show _=A*pt t1 (cl (txcs p1 mb1 true) 113)*pt mb1 (mpo .i64 M2)*pt p1 (cl (pocs lg1 d1 none) 110)*pt lg1 (cl (lcs11 d1 128 576) 99)*Dev d1 s2 by unfold TxA;rw [if_pos rfl];ac_rfl) ?_;refine Zbq ?_;refine tl_c rfl (o_call bd40 rfl (Load12_c (s:=s2) (q:=64) (m:=5))) ?_;rintro _ _ ⟨a93,c93,rfl,hc93,rfl⟩;rw [hi2]
  refine Zfv ?_;refine tl_c rfl (o_call bd42 rfl (Begin12_ok (C:=λ Y=>Y) (R:=A*pt t1 (cl (txcs p1 mb1 true) 113)*pt mb1 (mpo .i64 M2)*Sl 1 (.slice a93 5 c93) 5 (bys [1,2,9,9,0])) (s:=s2) (at_:=128) (sz:=576) (p:=p1) (lg:=lg1) (d:=d1) (hA:=by ac_rfl) (hlw:=lw12 hl2) (ho:=ho2) (hst:=hst2))) ?_;rintro _ _ ⟨t2,mb2,rfl,rfl⟩;refine Zfv ?_;refine tv (o_eqi rfl rfl) ?_;refine tlm ?_;refine tl_bool (d:=103) rfl (sbq ?_) dbq;intro h;refine tlm ?_;refine tl_x rfl (o_buildSliceL (k:=1) (vs:=bys [1,2,9,9,0]) (l:=bys [1,2,9,9,0]) underlying57 sz5 z5 rfl rfl (by decide) (by decide) (by intro v hv;simp only [bys,b8,List.map_cons,List.map_nil,List.mem_cons,List.not_mem_nil,or_false] at hv;rcases hv with rfl|rfl|rfl|rfl|rfl<;>rfl) rfl) ?_;rintro _ _ ⟨b105,rfl,rfl⟩;refine tl_c rfl (o_call bd60 rfl (EqBytes_c (xs:=[1,2,9,9,0]) (ys:=[1,2,9,9,0]) (h1:=(by repeat (first|with_reducible exact rs_sl|with_reducible exact rs_pt0|apply Rs.left))) (h2:=show Rs _ _ (bys [1,2,9,9,0]) from by repeat (first|exact rs_pt rfl|apply Rs.left)) (hx:=rfl) (hy:=rfl))) ?_;rintro _ _ ⟨rfl,rfl⟩;refine tl_env (d:=106) (v:= .bool true) (rfl) ?_;refine Z5 ?_;refine tl_bool (d:=108) rfl (sbq ?_) dbq;intro h;refine tlm ?_;refine tv (o_eqi rfl rfl) ?_;refine Z5 ?_;refine tl_bool (d:=112) rfl (sbq ?_) dbq;intro h;refine tlm ?_;refine tv (o_nep underlying62 rfl rfl) ?_;refine Z5 ?_;refine tl_bool (d:=116) rfl (sbq ?_) dbq;intro h;refine tlm ?_;refine tl_c rfl (o_call bd32 rfl (CommitO_c (p:=p1) (t:=t1) (mb:=mb1) (ht:=by exact hbqz))) ?_;refine Zfd ?_;refine Z5 ?_;refine tl_bool (d:=121) rfl (sbq ?_) dbq;intro h;refine tlm ?_;refine tl_c rfl (o_call bd48 rfl (DropT_c)) ?_;refine Zfd ?_;refine Z5 ?_;refine tl_bool (d:=126) rfl (sbq ?_) dbq;intro h;refine tlm ?_;refine tl_c rfl (o_call bd48 rfl (DropO_c (p:=p1) (t:=t2) (mb:=mb2) (ht:=txa_t ctqz))) ?_;refine Zfd ?_;refine tv (o_pick_t rfl wqz) ?_;refine Zh ?_;exact ⟨.bool true,A,res1 rfl rfl,Dr.sat drqz,rfl,rfl⟩
end Go.Vl

namespace Go.Vl
open Go Go.Proofs Go.Proofs.Tryz
theorem res4 {P:Program}{n:Nat}{fn:Func}{ρ:Env}{A:SP}{t u s r:Tmp}{v1 v2 v3 v4:Value}(h:fn.results= #[.tmp t,.tmp u,.tmp s,.tmp r])(h1:ev n ρ (.tmp t)=v1)(h2:ev n ρ (.tmp u)=v2)(h3:ev n ρ (.tmp s)=v3)(h4:ev n ρ (.tmp r)=v4):
    Res P n fn ρ A (.tuple #[v1,v2,v3,v4]):=λ g a w ha hs=>by
  have e1:a.tmps.getD t undef=v1:=(by rw [←h1,←ha.eval];rfl);have e2:a.tmps.getD u undef=v2:=(by rw [←h2,←ha.eval];rfl);have e3:a.tmps.getD s undef=v3:=(by rw [←h3,←ha.eval];rfl);have e4:a.tmps.getD r undef=v4:=(by rw [←h4,←ha.eval];rfl)
  simp only [results,h];simp [←e1,←e2,←e3,←e4]
theorem cut0 {a:Option Addr}{c:Nat}:cutAddr a c 0 1=a:=by unfold cutAddr;cases a<;>simp [Addr.add]
def stI (xs:List Nat):List Nat:=spl (sizedL 1024 xs) 128 (List.replicate 8 0)
theorem sized_len (n:Nat)(xs:List Nat):(sizedL n xs).length=n:=by unfold sizedL;rw [List.length_append,List.length_take,List.length_replicate];omega
theorem sized_b {n:Nat}{xs:List Nat}(h:∀x∈xs,x<256):∀x∈sizedL n xs,x<256:=λ x hx=>by
  unfold sizedL at hx
  rcases List.mem_append.1 hx with h1|h1
  . exact h x (List.mem_of_mem_take h1)
  rw [(List.mem_replicate.1 h1).2];decide
def stZ (xs:List Nat)(k:Nat):List Nat:=spl (sizedL 1024 xs) 128 (List.replicate k 0)
theorem stZ_zero (xs:List Nat):stZ xs 0=sizedL 1024 xs:=by unfold stZ;rw [List.replicate_zero,spl_nil]
theorem stZ_succ (xs:List Nat){k:Nat}(h:k<8):(stZ xs k).set (128+k) 0=stZ xs (k+1):=spl_zero (by rw [sized_len];omega)
theorem stz_len (xs:List Nat){k:Nat}(h:k<=8):((stZ xs k)).length=1024:=by unfold stZ;rw [spl_length (by rw [List.length_replicate,sized_len];omega),sized_len]
theorem stI_len (xs:List Nat):(stI xs).length=1024:=stz_len xs (Nat.le_refl 8)
theorem stI_b {xs:List Nat}(h:∀x∈xs,x<256):∀x∈stI xs,x<256:=λ x hx=>by
  unfold stI spl at hx
  rcases List.mem_append.1 hx with h1|h1
  . rcases List.mem_append.1 h1 with h2|h2
    . exact sized_b h x (List.mem_of_mem_take h2)
    rw [(List.mem_replicate.1 h2).2];decide
  exact sized_b h x (List.mem_of_mem_drop h1)
theorem stI_word (xs:List Nat):nm (((stI xs).drop 128).take 8)=0:=by
  have:=spl_mid (l:=sizedL 1024 xs) (b:=List.replicate 8 0) (p:=128) (by rw [List.length_replicate,sized_len];decide);rw [List.length_replicate] at this
  unfold stI;rw [this];decide
def stD (xs:List Nat):DevS:=fromS 16 (stI xs)
theorem stD_len (xs:List Nat):(stD xs).ls.length=16:=by simp [stD,fromS,newS]
theorem stD_off (xs:List Nat):(stD xs).off=false:=rfl
theorem stD_img {xs:List Nat}(h:∀x∈xs,x<256):imgS (stD xs)=stI xs:=img_from (stI_b h) (stI_len xs)
theorem stD_stp {xs:List Nat}(h:∀x∈xs,x<256):stpS 128 576 (stD xs)=0:=by
  unfold stpS
  rw [records_none (stD_off xs) (lw12 (stD_len xs)) (by rw [stD_img h];exact stI_word xs)]
  rfl
theorem stD_wf {xs:List Nat}(h:∀x∈xs,x<256):WfD (stD xs):=fromS_wf (by decide) (by decide) (stI_b h)
def plA (at_:Int):Nat:=if at_%384<64 then (at_%384).toNat+64 else (at_%384).toNat+640
def plN (at_:Int)(m:Nat):Nat:=min (min m 12) ((if at_%384<64 then 128 else 1024)-plA at_)
theorem pl_lt {at_:Int}(h:at_%384<64):plA at_=(at_%384).toNat+64/\∀m,plN at_ m=min (min m 12) (128-((at_%384).toNat+64)):=by
  have e:plA at_=(at_%384).toNat+64:=(by unfold plA;rw [if_pos h]);exact ⟨e,λ m=>by unfold plN;rw [if_pos h,e]⟩
theorem pl_ge {at_:Int}(h:¬at_%384<64):plA at_=(at_%384).toNat+640/\∀m,plN at_ m=min (min m 12) (1024-((at_%384).toNat+640)):=by
  have e:plA at_=(at_%384).toNat+640:=(by unfold plA;rw [if_neg h]);exact ⟨e,λ m=>by unfold plN;rw [if_neg h,e]⟩
theorem pl_in (at_:Int)(m:Nat):plA at_+plN at_ m<=1024/\ plN at_ m<=m/\ plN at_ m<=12/\ 64<=plA at_/\ (plA at_+plN at_ m<=128∨704<=plA at_):=by
  by_cases h:at_%384<64
  . obtain ⟨e1,e2⟩:=pl_lt h;rw [e1,e2];omega
  obtain ⟨e1,e2⟩:=pl_ge h;rw [e1,e2];omega
attribute [local irreducible] crk crL crc Sl pt ro Dev imgS recS readS recsF rdW rdO rkT Parts rvl recordsS runsL adrF kcl xcl kys runA runsF layF linR flLs stoL writeT writeS comS clearS extX ovF newS fW fW1 sizedL
theorem start12_c {A:SP}{a:Option Addr}{m c:Nat}{xs:List Nat}(hr:Rs A a (bys xs):=by exact rbqz)(hm:xs.length=m:=by first|assumption|rfl)(hb:∀x∈xs,x<256:=by assumption)(hml:m<=140737488351232:=by omega):
    Fn Tryz.prog 26 #[.slice a m c] A (λ r B=>∃a c d p t lg mb,r= .tuple #[.slice a 1024 c,pz d,pz p,pz t]/\ 1024<=c/\ B=A*Sl 1 (.slice a 1024 c) 1024 (bys (stI xs))*TxA t p lg d mb 128 576 ⟨[],0⟩ false (stD xs)):=by
  refine fn_enterW func26 rfl ntmps26 (by simp) ?_;refine Zct ?_;refine tla ?_;refine tla ?_;refine Z6 ?_;refine tl_c rfl (o_call bd50 rfl (Sized_c (n:=1024) (xs:=xs))) ?_;rintro _ _ ⟨a14,c14,rfl,hc14,rfl⟩;refine Za ?_;refine Ze2 ?_;refine tc_loop (λ kk ρ BB=>∃ (k:Nat),(k<=8)/\ kk=8-k/\ ρ 7=(vn (128+k))/\ ρ 6= .slice a14 1024 c14/\ Dr BB (A*Sl 1 (.slice a14 1024 c14) 1024 (bys (stZ xs k)))) (m:=8-(0)) ?_ ?_
  . exact ⟨0,by omega,rfl,rfl,rfl,by rw [stZ_zero];repeat (first|with_reducible exact dr_refl|apply dr_keep|apply dr_drop)⟩
  intro k ρ B hI;obtain ⟨k,hq0,hkk1,hE7,hE6,hBA⟩:=hI;refine tc_pre hBA.sat ?_;clear hBA;refine te 7 hE7 ?_;refine te 6 hE6 ?_;refine Zi ?_;refine Zt ?_;refine tc_cond rfl (λ h=> ?_) (λ h=> ?_)
  . have hk:k<8:=(by first|omega|(simp at h;omega));have hkl:=stz_len xs (show k<=8 by omega);refine Zbg ?_;refine Zcg ?_;refine tv (o_ixP1 underlying57 sz5 rfl rfl oqz (nn_rs rs_sl (by rw [bys_length];omega))) ?_;refine tl_u rfl (o_stP (ys:=bys (stZ xs (k+1))) sz5 rfl rfl rfl ctqz oqz (by rw [←stZ_succ xs hk];exact bys_set _ _ 0)) ?_;refine Zbr ?_;refine Zfj ?_;exact ⟨_,by omega,k+1,by omega,rfl,rfl,rfl,drqz⟩
  obtain rfl:k=8:=by first|omega|(simp at h;omega)
  rw [show (stZ xs 8)=stI xs from rfl]
  refine Zde ?_;refine tl_c rfl (o_call bd52 rfl (CopyBytes_c (xs:=stI xs) (hm:=stI_len xs))) ?_;rintro _ _ ⟨a24,c24,rfl,hc24,rfl⟩;refine tl_c rfl (o_call bd51 rfl (From_c (n:=16) (xs:=stI xs) (hr:=rs_sl) (hx:=stI_len xs) (hb:=stI_b hb))) ?_;rintro _ _ ⟨d25,rfl,rfl⟩;rw [show fromS 16 (stI xs)=stD xs from rfl]
  refine Zf1 ?_;refine Zci ?_;intro h;refine Zbf ?_;refine tl_c rfl (o_call bd90 rfl (opened12_c (s:=stD xs) (hls:=stD_len xs))) ?_;rintro _ _ ⟨lg31,p31,rfl,rfl⟩;refine Z6 ?_;refine tl_c rfl (o_call bd42 rfl (Begin12_ok (C:=λ Y=>Y) (R:=A*Sl 1 (.slice a14 1024 c14) 1024 (bys (stI xs))*Sl 1 (.slice a24 1024 c24) 1024 (bys (stI xs))) (s:=stD xs) (at_:=128) (sz:=576) (p:=p31) (lg:=lg31) (d:=d25) (hA:=by ac_rfl) (hlw:=lw12 (stD_len xs)) (ho:=stD_off xs) (hst:=stD_stp hb))) ?_;rintro _ _ ⟨t34,mb34,rfl,rfl⟩;refine Zfv ?_;refine Z0 ?_;refine tlm ?_;refine tla ?_;refine tla ?_;refine Zee ?_;exact ⟨_,_,res4 rfl rfl rfl rfl rfl,Dr.sat drqz,a14,c14,d25,p31,t34,lg31,mb34,rfl,hc14,rfl⟩
theorem place12_c {A:SP}{at_:Int}{a:Option Addr}{m c:Nat}{fr:Bool}(hmc:m<=c):
    Fn Tryz.prog 91 #[.agg #[.int .i64 at_,.slice a m c,.bool fr]] A (λ r B=>r= .tuple #[.int .i64 (plA at_:Nat),.slice a (plN at_ m) c]/\ A=B):=by
  refine fn_enterW func91 rfl ntmps91 (by simp) ?_;refine Zc6 ?_;rintro _ _ ⟨b1,rfl,rfl⟩;refine tla ?_;refine Za ?_;refine sr ?_;refine tv (o_fieldAddr (o:=1) underlying165 rfl rfl sz57 rfl) ?_;refine tv (o_load p57 rfl hsqz rfl) ?_;refine Zdg ?_;refine Zdo ?_;refine tc_cut (λ ρ BB=>∃ (m2:Nat),(m2=min m 12)/\ ρ 4= .slice a m2 c/\ ρ 1=(pz b1)/\ Dr BB (A*pt b1 (cl [.int .i64 at_,.slice a m c,.bool fr] 165))) ?_ ?_
  . skip
    refine tc_cond rfl (λ h=> ?_) (λ h=> ?_)
    . have hm12:12<m:=(by simp at h;omega);refine Zbq ?_;refine tv (o_slice (l:=0) (h:=12) underlying57 sz5 rfl bnd_none (bnd_nat rfl) oqz oqz) ?_;refine tl_env (d:=13) (v:= .slice a 12 c) (by show Value.slice (cutAddr _ _ 0 1) (12-0) (c-0)=_;rw [cut0,Nat.sub_zero,Nat.sub_zero]) ?_;refine Zdk ?_;exact ⟨12,by omega,rfl,rfl,drqz⟩
    have hm12:m<=12:=(by simp at h;omega);refine tc_skip ?_;exact ⟨m,by omega,rfl,rfl,drqz⟩
  intro ρ B hI;obtain ⟨m2,hj0,hE4,hE1,hBA⟩:=hI;refine q_then_n ?_;refine tc_pre hBA.sat ?_;clear hBA;refine te 4 hE4 ?_;refine te 1 hE1 ?_;refine Zy ?_;refine sr ?_;refine tv (o_fieldAddr (o:=0) underlying165 rfl rfl sz3 rfl) ?_;refine tv (o_load p3 rfl hsqz rfl) ?_;refine Zcq ?_;refine tv (by first|exact o_subI rfl rfl oqz|exact o_sub rfl rfl) ?_;refine tv (by first|exact o_subI rfl rfl oqz|exact o_sub rfl rfl) ?_;refine tl_c rfl (o_call bd30 rfl (Within_c (i:=at_) (n:=384))) ?_;rintro _ _ ⟨rfl,rfl⟩;refine tl_env (d:=20) (v:= .int .i64 (at_%384)) (rfl) ?_;have hw0:=Int.emod_nonneg at_ (show (384:Int)≠0 by decide);have hw1:=Int.emod_lt_of_pos at_ (show (0:Int)<384 by decide);obtain ⟨q,hq⟩:∃q:Nat,at_%384=q:=⟨(at_%384).toNat,by omega⟩;refine Zbe ?_;refine tlm ?_;refine Zt ?_;refine tc_cond rfl (λ h=> ?_) (λ h=> ?_)
  . have hlt:at_%384<64:=(by simpa using h);obtain ⟨e1,e2⟩:=pl_lt hlt;rw [hq,Int.toNat_natCast] at e1 e2
    specialize e2 m
    refine Zb ?_;refine tv adqz ?_;refine tl_env (d:=25) (v:=(vn (q+64))) (by first|rfl|(show Value.int .i64 _=_;congr 1;omega)) ?_;refine Zdg ?_;refine Zb7 ?_;refine tl_env (d:=29) (v:= .int .i64 ((128-(q+64):Nat):Int)) (congrArg (Value.int .i64) oqz) ?_;refine Zdo ?_;refine tc_cond rfl (λ h=> ?_) (λ h=> ?_)
    . have h9:128-(q+64)<m2:=(by first|exact h|(simp at h;omega));refine Zcg ?_;refine tv (by first|exact o_subI rfl rfl oqz|exact o_sub rfl rfl) ?_;refine tl_env (d:=33) (v:= .int .i64 ((128-(q+64):Nat):Int)) (congrArg (Value.int .i64) oqz) ?_;refine tv (o_slice (l:=0) (h:=128-(q+64)) underlying57 sz5 rfl bnd_none (bnd_nat rfl) oqz oqz) ?_;refine tl_env (d:=34) (v:= .slice a (128-(q+64)) c) (by show Value.slice (cutAddr _ _ 0 1) ((128-(q+64))-0) (c-0)=_;rw [cut0,Nat.sub_zero,Nat.sub_zero]) ?_;refine Z6 ?_;refine tlm ?_;refine Ze6 ?_;have e9:plN at_ m=(128-(q+64)):=(by rw [e2];omega);exact ⟨.tuple #[vn (q+64),.slice a (128-(q+64)) c],_,res2 rfl rfl rfl,Dr.sat drqz,by rw [e1,e9],rfl⟩
    have h9:m2<=128-(q+64):=(by first|omega|(simp at h;omega));refine Zf2 ?_;refine Ze6 ?_;have e9:plN at_ m=m2:=(by rw [e2];omega);exact ⟨.tuple #[vn (q+64),.slice a m2 c],_,res2 rfl rfl rfl,Dr.sat drqz,by rw [e1,e9],rfl⟩
  have hge:¬at_%384<64:=(by simpa using h);obtain ⟨e1,e2⟩:=pl_ge hge;rw [hq,Int.toNat_natCast] at e1 e2
  specialize e2 m
  refine Zbf ?_;refine Zb7 ?_;refine tv adqz ?_;refine tv adqz ?_;refine tl_env (d:=41) (v:=(vn (q+640))) (congrArg (Value.int .i64) oqz) ?_;refine Zdg ?_;refine Zb7 ?_;refine tl_env (d:=45) (v:= .int .i64 ((1024-(q+640):Nat):Int)) (congrArg (Value.int .i64) oqz) ?_;refine Zdo ?_;refine tc_cond rfl (λ h=> ?_) (λ h=> ?_)
  . have h9:1024-(q+640)<m2:=(by first|exact h|(simp at h;omega));refine Zcg ?_;refine tv (by first|exact o_subI rfl rfl oqz|exact o_sub rfl rfl) ?_;refine tl_env (d:=49) (v:= .int .i64 ((1024-(q+640):Nat):Int)) (congrArg (Value.int .i64) oqz) ?_;refine tv (o_slice (l:=0) (h:=1024-(q+640)) underlying57 sz5 rfl bnd_none (bnd_nat rfl) oqz oqz) ?_;refine tl_env (d:=50) (v:= .slice a (1024-(q+640)) c) (by show Value.slice (cutAddr _ _ 0 1) ((1024-(q+640))-0) (c-0)=_;rw [cut0,Nat.sub_zero,Nat.sub_zero]) ?_;refine Z6 ?_;refine tlm ?_;refine Zee ?_;have e9:plN at_ m=(1024-(q+640)):=(by rw [e2];omega);exact ⟨.tuple #[vn (q+640),.slice a (1024-(q+640)) c],_,res2 rfl rfl rfl,Dr.sat drqz,by rw [e1,e9],rfl⟩
  have h9:m2<=1024-(q+640):=(by first|omega|(simp at h;omega));refine Zf2 ?_;refine Zee ?_;have e9:plN at_ m=m2:=(by rw [e2];omega);exact ⟨.tuple #[vn (q+640),.slice a m2 c],_,res2 rfl rfl rfl,Dr.sat drqz,by rw [e1,e9],rfl⟩
end Go.Vl

namespace Go.Vl
open Go Go.Proofs Go.Proofs.Tryz
structure Pu12 where
  q:Int
  a:Option Addr
  c:Nat
  b:List Nat
  fr:Bool
def Pu12.cells (x:Pu12):List Value:=[.int .i64 x.q,.slice x.a x.b.length x.c,.bool x.fr]
structure PuW (A:SP) (x:Pu12):Prop where
  q: -9223372036854775808<=x.q/\ x.q<=9223372036854775807
  cap:x.b.length<=x.c
  rs:Rs A x.a (bys x.b)
  by_:∀y∈x.b,y<256
theorem PuW.left {A X:SP}{x:Pu12}(h:PuW A x):PuW (A*X) x:=⟨h.q,h.cap,h.rs.left,h.by_⟩
def ptl (l:List Pu12):List Value:=l.flatMap Pu12.cells
theorem ptl_cons (x:Pu12)(l:List Pu12):ptl (x::l)=x.cells++ptl l:=rfl
theorem ptl_len:∀ (l:List Pu12),(ptl l).length=l.length*3
  |[]=>rfl
  |x::l=>by rw [ptl_cons,List.length_append,ptl_len l,List.length_cons];show 3+_=_;omega
theorem ptl_at:∀{l:List Pu12} {i:Nat} {x:Pu12} (_:l[i]? =some x),((ptl l).drop (i*3)).take 3=x.cells
  |y::l,0,x,h=>by
    simp only [List.getElem?_cons_zero,Option.some.injEq] at h
    subst h;rw [ptl_cons,Nat.zero_mul,List.drop_zero,show 3=y.cells.length from rfl,List.take_left]
  |y::l,i+1,x,h=>by
    simp only [List.getElem?_cons_succ] at h
    rw [ptl_cons,show (i+1)*3=y.cells.length+i*3 by show _=3+_;omega,List.drop_append,List.drop_eq_nil_of_le oqz,List.nil_append,Nat.add_sub_cancel_left,ptl_at h]
  |[],i,x,h=>by simp at h
theorem ptl_at2 {l:List Pu12}{i:Nat}{x:Pu12}(hi:i<l.length)(h:l[i]? =some x):(ptl l)[i*3+2]? =some (.bool x.fr):=by
  have:=congrArg (·[2]?) (ptl_at h)
  simp only [List.getElem?_take,List.getElem?_drop] at this
  simpa [Pu12.cells] using this
def lay12 (f:TF)(x:Pu12):TF:=layF (plA x.q) (x.b.take (plN x.q x.b.length)) x.fr f
def laysK (l:List Pu12)(i:Nat):TF:=(l.take i).foldl lay12 tf0
theorem laysK_zero (l:List Pu12):laysK l 0=tf0:=rfl
theorem laysK_succ {l:List Pu12}{i:Nat}{x:Pu12}(h:l[i]? =some x):laysK l (i+1)=lay12 (laysK l i) x:=by
  obtain ⟨hi,rfl⟩:=List.getElem?_eq_some_iff.1 h
  unfold laysK
  rw [List.take_succ_eq_append_getElem hi,List.foldl_append];rfl
theorem laysK_all {l:List Pu12}{i:Nat}(h:l.length<=i):laysK l i=laysK l l.length:=by
  unfold laysK;rw [List.take_of_length_le h,List.take_length]
def kdF (f:TF)(a:Nat):Int:=match f a with|none=>0|some (_,b)=>if b then 2 else 1
def bkK (f:TF):List Int:=(List.range 1024).map (kdF f)
def bkB (f:TF):List Nat:=(List.range 1024).map (byF f)
def bkc (f:TF):List Value:=ints (bkK f)++bys (bkB f)
theorem bkK_len (f:TF):(bkK f).length=1024:=by simp [bkK]
theorem bkB_len (f:TF):(bkB f).length=1024:=by simp [bkB]
theorem bkc_len (f:TF):(bkc f).length=2048:=by unfold bkc;rw [List.length_append,ints_length,bys_length,bkK_len,bkB_len]
theorem bkK_at {f:TF}{a:Nat}(h:a<1024):(bkK f)[a]? =some (kdF f a):=by unfold bkK;rw [List.getElem?_map,List.getElem?_range h];rfl
theorem bkB_at {f:TF}{a:Nat}(h:a<1024):(bkB f)[a]? =some (byF f a):=by unfold bkB;rw [List.getElem?_map,List.getElem?_range h];rfl
theorem kb_kat {K:List Int}{B:List Nat}{a:Nat}{k:Int}(h:K[a]? =some k):(ints K++bys B)[a]? =some (.int .i64 k):=by
  obtain ⟨ha,_⟩:=List.getElem?_eq_some_iff.1 h;rw [List.getElem?_append_left (by rw [ints_length];exact ha)]
  unfold ints;rw [List.getElem?_map,h];rfl
theorem kb_bat {K:List Int}{B:List Nat}{a x:Nat}(hK:K.length=1024)(h:B[a]? =some x):(ints K++bys B)[1024+a]? =some (.int .u8 (x:Nat)):=by
  rw [List.getElem?_append_right (by rw [ints_length];omega),ints_length,hK,show 1024+a-1024=a by omega]
  unfold bys;rw [List.getElem?_map,h];rfl
theorem bkc_kat {f:TF}{a:Nat}(h:a<1024):(bkc f)[a]? =some (.int .i64 (kdF f a)):=kb_kat (bkK_at h)
theorem bkc_bat {f:TF}{a:Nat}(h:a<1024):(bkc f)[1024+a]? =some (.int .u8 (byF f a:Nat)):=kb_bat (bkK_len f) (bkB_at h)
theorem kb_len {K:List Int}{B:List Nat}:(ints K++bys B).length=K.length+B.length:=by rw [List.length_append,ints_length,bys_length]
theorem kb_kset {K:List Int}{B:List Nat}{a:Nat}{k:Int}(h:a<K.length):(ints K++bys B).set a (.int .i64 k)=ints (K.set a k)++bys B:=by
  rw [List.set_append_left _ _ (by rw [ints_length];exact h)]
  unfold ints;rw [List.map_set];rfl
theorem kb_bset {K:List Int}{B:List Nat}{a x:Nat}(hK:K.length=1024):(ints K++bys B).set (1024+a) (.int .u8 (x:Nat))=ints K++bys (B.set a x):=by
  rw [List.set_append_right _ _ (by rw [ints_length];omega),ints_length,hK,show 1024+a-1024=a by omega]
  unfold bys;rw [List.map_set];rfl
theorem bkc_bset {f:TF}{a x:Nat}:(bkc f).set (1024+a) (.int .u8 (x:Nat))=ints (bkK f)++bys ((bkB f).set a x):=kb_bset (bkK_len f)
theorem kb_cg {K K':List Int}{B:List Nat}(h:K'=K):ints K++bys B=ints K'++bys B:=by rw [h]
theorem kb_cs {K:List Int}{p:Nat}{k k':Int}{B:List Nat}(h:k=k'):ints (K.set p k)++bys B=ints (K.set p k')++bys B:=by rw [h]
theorem map_put {α:Type}{g h:Nat->α}{n p:Nat}(e:∀c,c≠p->h c=g c):(List.range n).map h=((List.range n).map g).set p (h p):=by
  apply List.ext_getElem?
  intro j;rw [List.getElem?_set,List.length_map,List.length_range]
  by_cases hj:p=j
  . subst hj;rw [if_pos rfl]
    by_cases hn:p<n
    . rw [if_pos hn,List.getElem?_map,List.getElem?_range hn];rfl
    rw [if_neg hn,List.getElem?_eq_none (by simp;omega)]
  rw [if_neg hj]
  by_cases hn:j<n
  . rw [List.getElem?_map,List.getElem?_map,List.getElem?_range hn]
    show some (h j)=some (g j)
    rw [e j oqz]
  rw [List.getElem?_eq_none (by simp;omega),List.getElem?_eq_none (by simp;omega)]
def put1 (f:TF)(p x:Nat)(b:Bool):TF:=λ c=>if c=p then some (x,b) else f c
theorem bkc_put (f:TF)(p x:Nat)(b:Bool):bkc (put1 f p x b)=ints ((bkK f).set p (if b then 2 else 1))++bys ((bkB f).set p x):=by
  have e1:bkK (put1 f p x b)=(bkK f).set p (if b then 2 else 1):=by
    unfold bkK
    rw [map_put (g:=kdF f) (p:=p) (λ c hc=>by unfold kdF put1;rw [if_neg hc])]
    exact congrArg (List.set _ p) (by unfold kdF put1;rw [if_pos rfl])
  have e2:bkB (put1 f p x b)=(bkB f).set p x:=by
    unfold bkB
    rw [map_put (g:=byF f) (p:=p) (λ c hc=>by unfold byF put1;rw [if_neg hc])]
    exact congrArg (List.set _ p) (by unfold byF put1;rw [if_pos rfl];rfl)
  unfold bkc;rw [e1,e2]
theorem lay_put {q j x:Nat}{xs:List Nat}{fr:Bool}{f:TF}(hj:j<xs.length)(hx:xs[j]? =some x):layF q (xs.take (j+1)) fr f=put1 (layF q (xs.take j) fr f) (q+j) x (((layF q (xs.take j) fr f (q+j)).map (·.2)).getD fr):=by
  obtain ⟨_,hx'⟩:=List.getElem?_eq_some_iff.1 hx;rw [List.take_succ_eq_append_getElem hj,layF_snoc,hx']
  funext c
  rw [List.length_take,Nat.min_eq_left oqz]
  unfold put1
  by_cases hc:c=q+j
  . rw [if_pos hc,if_pos hc,hc]
  rw [if_neg hc,if_neg hc]
theorem set_id {α:Type}{l:List α}{p:Nat}{k:α}(h:l[p]? =some k):l.set p k=l:=by
  obtain ⟨hp,rfl⟩:=List.getElem?_eq_some_iff.1 h;exact List.set_getElem_self hp
theorem bk_had {q j x:Nat}{xs:List Nat}{fr:Bool}{f:TF}(hj:j<xs.length)(hx:xs[j]? =some x)(hq:q+j<1024)(h:kdF (layF q (xs.take j) fr f) (q+j)≠0):ints (bkK (layF q (xs.take j) fr f))++bys ((bkB (layF q (xs.take j) fr f)).set (q+j) x)=bkc (layF q (xs.take (j+1)) fr f):=by
  rw [lay_put hj hx,bkc_put]
  refine kb_cg (set_id ?_);rw [bkK_at hq]
  refine congrArg some ?_
  unfold kdF at*
  generalize layF q (xs.take j) fr f (q+j)=o at*
  cases o with
  |none=>exact absurd rfl h
  |some y=>rfl
theorem bk_new {q j x:Nat}{xs:List Nat}{fr:Bool}{f:TF}(hj:j<xs.length)(hx:xs[j]? =some x)(h:kdF (layF q (xs.take j) fr f) (q+j)=0):ints ((bkK (layF q (xs.take j) fr f)).set (q+j) (if fr then 2 else 1))++bys ((bkB (layF q (xs.take j) fr f)).set (q+j) x)=bkc (layF q (xs.take (j+1)) fr f):=by
  rw [lay_put hj hx,bkc_put]
  refine kb_cs ?_
  unfold kdF at h
  generalize layF q (xs.take j) fr f (q+j)=o at*
  cases o with
  |none=>rfl
  |some y=>
    exfalso
    obtain ⟨y,b⟩:=y
    cases b<;>simp at h
attribute [local irreducible] crk crL crc Sl pt ro Dev imgS recS readS recsF rdW rdO rkT Parts rvl recordsS runsL adrF kcl xcl kys runA runsF layF linR flLs stoL writeT writeS comS clearS extX ovF newS fW fW1 sizedL bkc ptl
theorem Zc3 {p r:Prop}(k:r)(h:Kq r->p:=by intro k;refine tv (o_nilCheck rfl) ?_;refine tv (o_fieldAddr (o:=0) underlying76 rfl rfl sz73 rfl) ?_;exact k.o):p:=h ⟨k⟩
theorem puts12_c {A AA:SP}{bk t p lg d mb n pc:Nat}{pa:Option Addr}{l:List Pu12}{M:MS}{s:DevS}(hA:AA=A*TxA t p lg d mb 128 576 M false s*pt bk (cl (bkc tf0) 76))(hr:Rs A pa (ptl l))(hn:l.length=n)(hw:∀x∈l,PuW A x)(hM:MF M 1024 tf0)(hls:s.ls.length=16)(ho:s.off=false):
    Fn Tryz.prog 28 #[pz bk,pz t,.slice pa n pc] (AA) (λ r B=>∃M2,r= .bool true/\ MF M2 1024 (laysK l 8)/\ B=A*TxA t p lg d mb 128 576 M2 false s*pt bk (cl (bkc (laysK l 8)) 76)):=by
  refine fn_enterW func28 rfl ntmps28 (by simp) ?_;subst hA;refine Zy ?_;refine Ze2 ?_;refine tc_loop (λ kk ρ BB=>∃ (i:Nat) (M1:MS),(i<=8)/\ (i<=n)/\ (MF M1 1024 (laysK l i))/\ kk=8-i/\ ρ 7=(vn i)/\ ρ 0=(pz bk)/\ ρ 1=(pz t)/\ ρ 2= .slice pa n pc/\ Dr BB (A*TxA t p lg d mb 128 576 M1 false s*pt bk (cl (bkc (laysK l i)) 76))) (m:=8-(0)) ?_ ?_
  . exact ⟨0,M,by omega,by omega,hM,rfl,rfl,rfl,rfl,rfl,drqz⟩
  intro k ρ B hI;obtain ⟨i,M1,hp0,hp1,hp2,hkk1,hE7,hE0,hE1,hE2,hBA⟩:=hI;refine tc_pre hBA.sat ?_;clear hBA;refine te 7 hE7 ?_;refine te 0 hE0 ?_;refine te 1 hE1 ?_;refine te 2 hE2 ?_;refine Zcy ?_;refine tc_cut (λ ρ BB=>∃ (bb:Bool),(bb=decide (i<n/\ i<8))/\ ρ 19= .bool bb/\ ρ 0=(pz bk)/\ ρ 1=(pz t)/\ ρ 2= .slice pa n pc/\ ρ 7=(vn i)/\ BB=A*TxA t p lg d mb 128 576 M1 false s*pt bk (cl (bkc (laysK l i)) 76)) ?_ ?_
  . skip
    refine Zcg ?_;refine tv (o_len underlying67 rfl) ?_;refine Zcu ?_;refine tl_bool (d:=16) rfl (λ h=> ?_) (λ h=> ?_)
    . have g16:(i<n):=(by first|exact of_decide_eq_true h|(have h2:=h;simp at h2;omega)|simpa using h);refine tlm ?_;refine tv (o_lss rfl rfl) ?_;refine Zet ?_;exact ⟨_,by first|exact (decide_eq_true oqz).symm|exact (decide_eq_false oqz).symm|(rw [decide_eq_decide];omega),rfl,rfl,rfl,rfl,rfl,rfl⟩
    have g16:¬(i<n):=(by first|exact of_decide_eq_false h|(have h2:=h;simp at h2;omega)|simpa using h);refine Zck ?_;refine tl_nil ?_;exact ⟨_,by first|exact (decide_eq_true oqz).symm|exact (decide_eq_false oqz).symm|(rw [decide_eq_decide];omega),rfl,rfl,rfl,rfl,rfl,rfl⟩
  intro ρ B hI;obtain ⟨bb,hbb0,hE19,hE0,hE1,hE2,hE7,rfl⟩:=hI;refine q_then_n ?_;refine te 19 hE19 ?_;refine te 0 hE0 ?_;refine te 1 hE1 ?_;refine te 2 hE2 ?_;refine te 7 hE7 ?_;refine tc_cond rfl (λ h=> ?_) (λ h=> ?_)
  . rw [h] at hbb0
    have hi8:=of_decide_eq_true hbb0.symm;have hil:i<l.length:=(by omega);obtain ⟨x,hx9⟩:∃x,l[i]? =some x:=⟨_,List.getElem?_eq_getElem hil⟩;have hxw:=hw x (List.mem_of_getElem? hx9);have hpl:=pl_in x.q x.b.length;have hlk:=laysK_succ hx9
    unfold lay12 at hlk
    have hcap:=hxw.cap;obtain ⟨q,hq⟩:∃q,plA x.q=q:=⟨_,rfl⟩;obtain ⟨m,hm⟩:∃m,plN x.q x.b.length=m:=⟨_,rfl⟩;rw [hq,hm] at hlk hpl
    obtain ⟨xs,hxs⟩:∃xs,x.b.take m=xs:=⟨_,rfl⟩;rw [hxs] at hlk
    have hxl:xs.length=m:=(by rw [←hxs,List.length_take];omega);have hxb:∀y∈xs,y<256:=λ y hy=>hxw.by_ y (List.mem_of_mem_take (hxs▸hy))
    have hrs:Rs A x.a (bys xs):=hxs▸eq_take hxw.rs
    refine Zew ?_;refine tlm ?_;refine tv (o_ixP (a:=pa) underlying67 sz165 rfl rfl oqz (nn_rs (xs:=ptl l) (by repeat (first|exact hr|apply Rs.left)) (by rw [ptl_len];omega))) ?_;refine tv (o_ldPN (a:=pa) (xs:=ptl l) (vs:=x.cells) a165 sz165 rfl (by repeat (first|exact hr|apply Rs.left)) (ptl_at hx9) rfl (by decide)) ?_;refine tl_env (d:=26) (v:= .agg #[.int .i64 x.q,.slice x.a x.b.length x.c,.bool x.fr]) (rfl) ?_;refine tl_c rfl (o_call bd91 rfl (place12_c (at_:=x.q) (a:=x.a) (m:=x.b.length) (c:=x.c) (fr:=x.fr) (hmc:=hxw.cap))) ?_;rintro _ _ ⟨rfl,rfl⟩;refine tl_env (d:=27) (v:= .tuple #[vn q,.slice x.a m x.c]) (by show Value.tuple #[vn (plA x.q),.slice x.a (plN x.q x.b.length) x.c]=_;rw [hq,hm]) ?_;refine Zb9 ?_;refine Za ?_;refine Zcl ?_;refine tlm ?_;refine tv (o_ixP (a:=pa) underlying67 sz165 rfl rfl oqz (nn_rs (xs:=ptl l) (by repeat (first|exact hr|apply Rs.left)) (by rw [ptl_len];omega))) ?_;refine tv (o_faP (a:=pa) (m:=0) (o:=2) underlying165 rfl rfl sz4 rfl (nn_rs (xs:=ptl l) (by repeat (first|exact hr|apply Rs.left)) (by rw [ptl_len];omega))) ?_;refine tv (o_ldP (a:=pa) (xs:=ptl l) p4 rfl (by repeat (first|exact hr|apply Rs.left)) (ptl_at2 hil hx9)) ?_;refine tl_env (d:=34) (v:= .bool x.fr) (rfl) ?_;refine nq ?_;refine tc_cut (λ ρ BB=>∃ (M2:MS),(MF M2 1024 (layF q xs x.fr (laysK l i)))/\ ρ 10= .int .i64 0/\ ρ 0=(pz bk)/\ ρ 1=(pz t)/\ ρ 2= .slice pa n pc/\ ρ 7=(vn i)/\ ρ 8=(vn q)/\ ρ 9= .slice x.a m x.c/\ Dr BB (A*TxA t p lg d mb 128 576 M2 false s*pt bk (cl (bkc (laysK l i)) 76))) ?_ ?_
    . skip
      refine tc_cond rfl (λ h=> ?_) (λ h=> ?_)
      . have hfr:x.fr=true:=(by simpa using h);refine Zcg ?_;refine tlm ?_;refine tl_c rfl (o_call bd52 rfl (CopyBytes_c (xs:=xs) (hr:=(by repeat (first|exact hrs|apply Rs.left))) (hm:=hxl))) ?_;rintro _ _ ⟨a38,c38,rfl,hc38,rfl⟩;refine tl_c rfl (o_call bd47 rfl (FreshT_c (s:=s) (n:=1024) (f:=laysK l i) (q:=q) (xs:=xs) (hM:=hp2) (hr:=(by repeat (first|with_reducible exact rs_sl|with_reducible exact rs_pt0|apply Rs.left))) (hm:=hxl) (hb:=hxb))) ?_;rintro _ _ ⟨M39,rfl,hM39,rfl⟩;refine Zdk ?_;exact ⟨_,by rw [hfr];exact hM39,rfl,rfl,rfl,rfl,rfl,rfl,rfl,drqz⟩
      have hfr:x.fr=false:=(by simpa using h);refine Zcg ?_;refine tlm ?_;refine tl_c rfl (o_call bd52 rfl (CopyBytes_c (xs:=xs) (hr:=(by repeat (first|exact hrs|apply Rs.left))) (hm:=hxl))) ?_;rintro _ _ ⟨a43,c43,rfl,hc43,rfl⟩;refine tl_c rfl (o_call bd46 rfl (StoreT_c (s:=s) (n:=1024) (f:=laysK l i) (q:=q) (xs:=xs) (hM:=hp2) (hr:=(by repeat (first|with_reducible exact rs_sl|with_reducible exact rs_pt0|apply Rs.left))) (hm:=hxl) (hb:=hxb))) ?_;rintro _ _ ⟨M39,rfl,hM39,rfl⟩;refine Zdk ?_;exact ⟨_,by rw [hfr];exact hM39,rfl,rfl,rfl,rfl,rfl,rfl,rfl,drqz⟩
    intro ρ B hI;obtain ⟨M2,hMM0,hE10,hE0,hE1,hE2,hE7,hE8,hE9,hBA⟩:=hI;refine q_then_n ?_;refine tc_pre hBA.sat ?_;clear hBA;refine te 10 hE10 ?_;refine te 0 hE0 ?_;refine te 1 hE1 ?_;refine te 2 hE2 ?_;refine te 7 hE7 ?_;refine te 8 hE8 ?_;refine te 9 hE9 ?_;refine Zi ?_;refine Zci ?_;intro h;refine Zc ?_;refine Zel ?_;refine tc_loop (λ kk ρ BB=>∃ (j:Nat),(j<=m)/\ kk=m-j/\ ρ 11=(vn j)/\ ρ 0=(pz bk)/\ ρ 1=(pz t)/\ ρ 2= .slice pa n pc/\ ρ 7=(vn i)/\ ρ 8=(vn q)/\ ρ 9= .slice x.a m x.c/\ Dr BB (A*TxA t p lg d mb 128 576 M2 false s*pt bk (cl (bkc (layF q (xs.take j) x.fr (laysK l i))) 76))) (m:=m-(0)) ?_ ?_
    . exact ⟨0,by omega,rfl,rfl,rfl,rfl,rfl,rfl,rfl,rfl,by rw [layF_zero];repeat (first|with_reducible exact dr_refl|apply dr_keep|apply dr_drop)⟩
    intro k ρ B hI;obtain ⟨j,hq_0,hkk2,hE11,hE0,hE1,hE2,hE7,hE8,hE9,hBA⟩:=hI;refine tc_pre hBA.sat ?_;clear hBA;refine te 11 hE11 ?_;refine te 0 hE0 ?_;refine te 1 hE1 ?_;refine te 2 hE2 ?_;refine te 7 hE7 ?_;refine te 8 hE8 ?_;refine te 9 hE9 ?_;refine Zi ?_;refine Ze3 ?_;refine Zt ?_;refine tc_cond rfl (λ h=> ?_) (λ h=> ?_)
    . have hj:j<xs.length:=(by first|omega|(simp at h;omega));obtain ⟨y,hy⟩:∃y,xs[j]? =some y:=⟨_,List.getElem?_eq_getElem hj⟩;have hq9:q+j<1024:=(by omega);have hy8:y<256:=hxb y (List.mem_of_getElem? hy);have hbl:=bkc_len (layF q (xs.take j) x.fr (laysK l i));refine Zbg ?_;refine tc_seq ?_;refine tc_regh (S:=A) mo drqz ?_
      show TH _ _ _ _ _ 12 (Array.replicate 12 false) _ _
      refine Zdu ?_;refine tm 2 rfl kqz rfl (o_move wqz) ?_;refine tm 3 rfl kqz rfl adqz ?_;refine Zdv ?_;refine tm 6 rfl kqz rfl (o_ixP1 (a:=x.a) underlying57 sz5 rfl rfl oqz (nn_rs (xs:=bys xs) (by repeat (first|exact hrs|apply Rs.left)) (by rw [bys_length];omega))) ?_;refine tm 7 rfl kqz rfl (o_ldP (a:=x.a) (xs:=bys xs) p5 rfl (by repeat (first|exact hrs|apply Rs.left)) (show (bys xs)[j]? =some (.int .u8 (y:Nat)) by unfold bys;rw [List.getElem?_map,hy];rfl)) ?_;refine th_env (d:=60) (v:= .int .u8 (y:Nat)) (rfl) ?_;refine tm 8 rfl kqz rfl (o_nilCheck rfl) ?_;refine tm 9 rfl kqz rfl (o_fieldAddr (o:=1024) underlying76 rfl rfl sz74 rfl) ?_;refine tm 10 rfl kqz rfl (o_indexAddrAN1 (j:=q+j) underlying74 sz5 rfl rfl hq9) ?_;refine th_one (i:=11) kqz ?_;refine oh_u rfl rfl rfl (o_stU (l':=ints (bkK (layF q (xs.take j) x.fr (laysK l i)))++bys ((bkB (layF q (xs.take j) x.fr (laysK l i))).set (q+j) y)) rfl upqz sz5 rfl rfl (by show 1024+(q+j)<_;omega) bkc_bset) drqz ?_;refine Zb5 ?_;refine Zb ?_;refine Z0 ?_;refine tv adqz ?_;refine Zc3 ?_;refine tv (o_indexAddrAN1 (j:=q+j) underlying73 sz3 rfl rfl hq9) ?_;refine tl_env (d:=70) (v:= .pointer (some ⟨bk,q+j,none⟩)) (by show Value.pointer (some ⟨bk,0+0+(q+j),none⟩)=_;simp only [Nat.zero_add]) ?_;refine tv (o_load p3 rfl hsqz (kb_kat (bkK_at hq9))) ?_;refine Zd5 ?_;refine tc_cut (λ ρ BB=>ρ 0=(pz bk)/\ ρ 1=(pz t)/\ ρ 2= .slice pa n pc/\ ρ 7=(vn i)/\ ρ 8=(vn q)/\ ρ 9= .slice x.a m x.c/\ ρ 11=(vn j)/\ Dr BB (A*TxA t p lg d mb 128 576 M2 false s*pt bk (cl (bkc (layF q (xs.take (j+1)) x.fr (laysK l i))) 76))) ?_ ?_
      . skip
        refine tc_cond rfl (λ h=> ?_) (λ h=> ?_)
        . have h0:kdF (layF q (xs.take j) x.fr (laysK l i)) (q+j)=0:=(by first|exact of_decide_eq_true h|simpa using h);refine Zb ?_;refine Z0 ?_;refine tv adqz ?_;refine Zc3 ?_;refine tv (o_indexAddrAN1 (j:=q+j) underlying73 sz3 rfl rfl hq9) ?_;refine tl_env (d:=79) (v:= .pointer (some ⟨bk,q+j,none⟩)) (by show Value.pointer (some ⟨bk,0+0+(q+j),none⟩)=_;simp only [Nat.zero_add]) ?_;refine tl_u rfl (o_stU (l':=ints ((bkK (layF q (xs.take j) x.fr (laysK l i))).set (q+j) 1)++bys ((bkB (layF q (xs.take j) x.fr (laysK l i))).set (q+j) y)) rfl upqz sz3 rfl rfl (by rw [kb_len,bkK_len];omega) (kb_kset (K:=bkK (layF q (xs.take j) x.fr (laysK l i))) (by rw [bkK_len];omega))) ?_;refine nq ?_;refine Zb ?_;refine tlm ?_;refine tv (o_ixP (a:=pa) underlying67 sz165 rfl rfl oqz (nn_rs (xs:=ptl l) (by repeat (first|exact hr|apply Rs.left)) (by rw [ptl_len];omega))) ?_;refine tv (o_faP (a:=pa) (m:=0) (o:=2) underlying165 rfl rfl sz4 rfl (nn_rs (xs:=ptl l) (by repeat (first|exact hr|apply Rs.left)) (by rw [ptl_len];omega))) ?_;refine tv (o_ldP (a:=pa) (xs:=ptl l) p4 rfl (by repeat (first|exact hr|apply Rs.left)) (ptl_at2 hil hx9)) ?_;refine tl_env (d:=84) (v:= .bool x.fr) (rfl) ?_;refine nq ?_;refine tc_cond rfl (λ h=> ?_) (λ h=> ?_)
          . have hfr:x.fr=true:=(by simpa using h);refine Zcg ?_;refine Zcq ?_;refine Zc3 ?_;refine tv (o_indexAddrAN1 (j:=q+j) underlying73 sz3 rfl rfl hq9) ?_;refine tl_env (d:=91) (v:= .pointer (some ⟨bk,q+j,none⟩)) (by show Value.pointer (some ⟨bk,0+0+(q+j),none⟩)=_;simp only [Nat.zero_add]) ?_;refine tl_u rfl (o_stU (l':=ints ((bkK (layF q (xs.take j) x.fr (laysK l i))).set (q+j) 2)++bys ((bkB (layF q (xs.take j) x.fr (laysK l i))).set (q+j) y)) rfl upqz sz3 rfl rfl (by rw [kb_len,List.length_set,bkK_len];omega) ((kb_kset (K:=(bkK (layF q (xs.take j) x.fr (laysK l i))).set (q+j) 1) (k:=2) (by rw [List.length_set,bkK_len];omega)).trans (by rw [List.set_set]))) ?_;refine tl_nil ?_;exact ⟨rfl,rfl,rfl,rfl,rfl,rfl,rfl,by first|(rw [←bk_had hj hy hq9 h0];repeat (first|with_reducible exact dr_refl|apply dr_keep|apply dr_drop);done)|(rw [←bk_new hj hy h0,if_pos hfr];repeat (first|with_reducible exact dr_refl|apply dr_keep|apply dr_drop);done)|(rw [←bk_new hj hy h0,if_neg hfr];repeat (first|with_reducible exact dr_refl|apply dr_keep|apply dr_drop);done)⟩
          have hfr:¬x.fr=true:=(by simpa using h);refine tc_skip ?_;exact ⟨rfl,rfl,rfl,rfl,rfl,rfl,rfl,by first|(rw [←bk_had hj hy hq9 h0];repeat (first|with_reducible exact dr_refl|apply dr_keep|apply dr_drop);done)|(rw [←bk_new hj hy h0,if_pos hfr];repeat (first|with_reducible exact dr_refl|apply dr_keep|apply dr_drop);done)|(rw [←bk_new hj hy h0,if_neg hfr];repeat (first|with_reducible exact dr_refl|apply dr_keep|apply dr_drop);done)⟩
        have h0:kdF (layF q (xs.take j) x.fr (laysK l i)) (q+j)≠0:=(by first|exact of_decide_eq_false h|simpa using h);refine tc_skip ?_;exact ⟨rfl,rfl,rfl,rfl,rfl,rfl,rfl,by first|(rw [←bk_had hj hy hq9 h0];repeat (first|with_reducible exact dr_refl|apply dr_keep|apply dr_drop);done)|(rw [←bk_new hj hy h0,if_pos hfr];repeat (first|with_reducible exact dr_refl|apply dr_keep|apply dr_drop);done)|(rw [←bk_new hj hy h0,if_neg hfr];repeat (first|with_reducible exact dr_refl|apply dr_keep|apply dr_drop);done)⟩
      intro ρ B hI;obtain ⟨hE0,hE1,hE2,hE7,hE8,hE9,hE11,hBA⟩:=hI;refine q_block_n (q_then_n ?_);refine tc_pre hBA.sat ?_;clear hBA;refine te 0 hE0 ?_;refine te 1 hE1 ?_;refine te 2 hE2 ?_;refine te 7 hE7 ?_;refine te 8 hE8 ?_;refine te 9 hE9 ?_;refine te 11 hE11 ?_;refine Zbq ?_;refine tv adqz ?_;refine Za ?_;exact ⟨_,by omega,j+1,by omega,rfl,rfl,rfl,rfl,rfl,rfl,rfl,rfl,drqz⟩
    obtain rfl:j=m:=by first|omega|(simp at h;omega)
    have hlk2:laysK l (i+1)=(layF q (xs.take j) x.fr (laysK l i)):=(by rw [hlk,List.take_of_length_le oqz]);refine Zdq ?_;refine Zbq ?_;refine tv adqz ?_;refine Za ?_;exact ⟨_,by omega,i+1,_,by omega,by omega,by rw [hlk];exact hMM0,rfl,rfl,rfl,rfl,rfl,by rw [hlk2];repeat (first|with_reducible exact dr_refl|apply dr_keep|apply dr_drop)⟩
  rw [h] at hbb0
  have hi8:=of_decide_eq_false hbb0.symm
  have hlk:laysK l 8=laysK l i:=by
    rcases Nat.lt_or_ge i 8 with h8|h8
    . rw [laysK_all (i:=8) oqz,laysK_all (i:=i) oqz]
    rw [show i=8 by omega]
  refine Zg ?_;refine Zc9 ?_;rw [hlk]
  exact ⟨.bool true,_,res1 rfl rfl,Dr.sat drqz,M1,rfl,hp2,rfl⟩
end Go.Vl

namespace Go.Vl
open Go Go.Proofs Go.Proofs.Tryz
structure RunQ (f:TF) (k:Bool) (l:List Nat) (out:List (Nat×List Nat)):Prop where
  pos:∀r∈out,1<=r.2.length
  top:∀r∈out,∃x∈l,r.1+r.2.length=x+1
  gap:out.Pairwise λ r s=>r.1+r.2.length<s.1
  kind:∀r∈out,∀j,j<r.2.length->isK f k (r.1+j)=true/\ r.2[j]? =some (byF f (r.1+j))
  cov:∀x∈l,∃r∈out,r.1<=x/\ x<r.1+r.2.length
theorem runQ_step {f:TF}{k:Bool}{l:List Nat}{out:List (Nat×List Nat)}{a:Nat}(h:RunQ f k l out)(ha:isK f k a=true)(hl:∀x∈l,x<a):RunQ f k (l++[a]) (runA f out a):=by
  cases hj:adjB out a with
  |true=>
    obtain ⟨O,r,rfl,hadj,hrun⟩:=adj_t (f:=f) hj;rw [hrun]
    have hp:=List.pairwise_append.1 h.gap;refine ⟨λ z hz=> ?_,λ z hz=> ?_,List.pairwise_append.2 ⟨hp.1,List.pairwise_singleton _ _,λ x hx y hy=> ?_⟩,λ z hz j hjl=> ?_,λ x hx=> ?_⟩
    . rcases List.mem_append.1 hz with h1|h1
      . exact h.pos z (List.mem_append_left _ h1)
      rw [List.mem_singleton.1 h1];simp
    . rcases List.mem_append.1 hz with h1|h1
      . obtain ⟨x,hx,e⟩:=h.top z (List.mem_append_left _ h1);exact ⟨x,List.mem_append_left _ hx,e⟩
      rw [List.mem_singleton.1 h1]
      exact ⟨a,by simp,by simp only [List.length_append,List.length_singleton];omega⟩
    . rw [List.mem_singleton.1 hy]
      exact hp.2.2 x hx r (List.mem_singleton.2 rfl)
    . rcases List.mem_append.1 hz with h1|h1
      . exact h.kind z (List.mem_append_left _ h1) j hjl
      rw [List.mem_singleton.1 h1] at hjl ⊢
      simp only [List.length_append,List.length_singleton] at hjl ⊢
      by_cases hjr:j<r.2.length
      . obtain ⟨g1,g2⟩:=h.kind r (by simp) j hjr;exact ⟨g1,by rw [List.getElem?_append_left hjr];exact g2⟩
      obtain rfl:j=r.2.length:=by omega
      rw [hadj]
      exact ⟨ha,by rw [List.getElem?_append_right (Nat.le_refl _),Nat.sub_self];rfl⟩
    rcases List.mem_append.1 hx with h1|h1
    . obtain ⟨z,hz,g1,g2⟩:=h.cov x h1
      rcases List.mem_append.1 hz with h2|h2
      . exact ⟨z,List.mem_append_left _ h2,g1,g2⟩
      rw [List.mem_singleton.1 h2] at g1 g2
      exact ⟨_,List.mem_append_right _ (List.mem_singleton.2 rfl),g1,by simp only [List.length_append,List.length_singleton];omega⟩
    rw [List.mem_singleton.1 h1]
    have:=h.pos r (by simp);exact ⟨_,List.mem_append_right _ (List.mem_singleton.2 rfl),by simp only [];omega,by simp only [List.length_append,List.length_singleton];omega⟩
  |false=>
    rw [adj_f hj]
    have hlt:∀z∈out,z.1+z.2.length<a:=λ z hz=>by
      rcases Nat.eq_zero_or_pos out.length with h0|h0
      . rw [List.eq_nil_of_length_eq_zero h0] at hz;cases hz
      obtain ⟨O,r,rfl⟩:=list_snoc h0;rw [adjB_snoc] at hj
      have hne:=of_decide_eq_false hj;obtain ⟨x,hx,e⟩:=h.top r (by simp);have hxa:=hl x hx
      rcases List.mem_append.1 hz with h1|h1
      . have:=(List.pairwise_append.1 h.gap).2.2 z h1 r (List.mem_singleton.2 rfl)
        omega
      rw [List.mem_singleton.1 h1];omega
    refine ⟨λ z hz=> ?_,λ z hz=> ?_,List.pairwise_append.2 ⟨h.gap,List.pairwise_singleton _ _,λ x hx y hy=> ?_⟩,λ z hz j hjl=> ?_,λ x hx=> ?_⟩
    . rcases List.mem_append.1 hz with h1|h1
      . exact h.pos z h1
      rw [List.mem_singleton.1 h1];simp
    . rcases List.mem_append.1 hz with h1|h1
      . obtain ⟨x,hx,e⟩:=h.top z h1;exact ⟨x,List.mem_append_left _ hx,e⟩
      rw [List.mem_singleton.1 h1];exact ⟨a,by simp,rfl⟩
    . rw [List.mem_singleton.1 hy];exact hlt x hx
    . rcases List.mem_append.1 hz with h1|h1
      . exact h.kind z h1 j hjl
      rw [List.mem_singleton.1 h1] at hjl ⊢
      simp only [List.length_singleton] at hjl
      obtain rfl:j=0:=by omega
      exact ⟨ha,rfl⟩
    rcases List.mem_append.1 hx with h1|h1
    . obtain ⟨z,hz,g1,g2⟩:=h.cov x h1;exact ⟨z,List.mem_append_left _ hz,g1,g2⟩
    rw [List.mem_singleton.1 h1]
    exact ⟨_,List.mem_append_right _ (List.mem_singleton.2 rfl),Nat.le_refl _,by show a<a+1;omega⟩
theorem runQ_all {n:Nat}{k:Bool}{f:TF}:∀i,i<=(adrF n k f).length->RunQ f k ((adrF n k f).take i) (runsL f ((adrF n k f).take i))
  |0,_=>by
    rw [List.take_zero]
    exact ⟨λ r h=>(by cases h),λ r h=>(by cases h),List.Pairwise.nil,λ r h=>(by cases h),λ r h=>(by cases h)⟩
  |i+1,h=>by
    have ih:=runQ_all (n:=n) (k:=k) (f:=f) i oqz;rw [runs_next rfl oqz,List.take_succ_eq_append_getElem oqz]
    refine runQ_step ih ?_ λ x hx=> ?_
    . exact (adr_mem.1 (List.getElem_mem oqz)).2
    obtain ⟨j,hj,rfl⟩:=List.mem_iff_getElem.1 hx;rw [List.length_take] at hj
    rw [List.getElem_take]
    exact List.pairwise_iff_getElem.1 (adr_sorted n k f) j i oqz oqz oqz
theorem runQ_F (n:Nat)(k:Bool)(f:TF):RunQ f k (adrF n k f) (runsF n k f):=by
  have:=runQ_all (n:=n) (k:=k) (f:=f) _ (Nat.le_refl _);rw [List.take_length] at this
  unfold runsF;exact this
theorem kd_one {f:TF}{a:Nat}:kdF f a=1↔isK f false a=true:=by
  unfold kdF isK
  cases f a with
  |none=>simp
  |some c=>obtain ⟨x,b⟩:=c;cases b<;>simp
theorem kd_zero {f:TF}{a:Nat}:kdF f a=0↔f a=none:=by
  unfold kdF
  cases f a with
  |none=>simp
  |some c=>obtain ⟨x,b⟩:=c;cases b<;>simp
theorem kd_nn (f:TF)(a:Nat):0<=kdF f a/\ kdF f a<=2:=by
  unfold kdF
  cases f a with
  |none=>simp
  |some c=>obtain ⟨x,b⟩:=c;cases b<;>simp
def rdK:Value->Option (DataW Unit×List MemPlace):=λ _=>some (.lit (.bool true),[])
structure SF (M:MS) (n:Nat) (g:Nat->Bool):Prop where
  wf:WfM M
  get:∀a:Int,M.get a=if 0<=a/\ g a.toNat=true then some (.bool true) else none
  keys:∀e∈M.D,∃a:Nat,a<n/\ e.k=(a:Int)/\ g a=true
  out:∀a,n<=a->g a=false
def g0:Nat->Bool:=λ _=>false
def updG (g:Nat->Bool)(p:Nat)(b:Bool):Nat->Bool:=λ c=>if c=p then b else g c
def adS (n:Nat)(g:Nat->Bool):List Nat:=(List.range n).filter g
def adZ (n:Nat)(g:Nat->Bool):List Int:=(adS n g).map λ a:Nat=>(a:Int)
structure WkX where
  h:Nat
  w:Nat
  t:Nat
  p:Nat
  lg:Nat
  d:Nat
  mb:Nat
  lv:Nat
  tk:Nat
  gv:Nat
  at_:Nat
  sz:Nat
  ba:Nat
  n:Nat
structure WkY where
  Ml:MS
  Mt:MS
  Mg:MS
  M:MS
  ls:Nat
structure WkT where
  lv:Nat->Bool
  tk:Nat->Bool
  gv:Nat->Bool
  f:TF
structure WkOk (X:WkX) (Y:WkY) (T:WkT) (N:Nat):Prop where
  l:SF Y.Ml X.n T.lv
  t:SF Y.Mt X.n T.tk
  g:SF Y.Mg X.n T.gv
  m:MF Y.M N T.f
  le:Y.ls<=X.n
  lo:∀b,b<Y.ls->T.lv b=true∨T.tk b=true
  dj:∀b,T.tk b=true->T.lv b=false
  gl:∀b,T.gv b=true->T.lv b=true
def usedB (T:WkT)(b:Nat):Bool:=T.tk b||(T.lv b&& !T.gv b)
def usedZ (T:WkT)(b:Int):Bool:=decide (0<=b)&&usedB T b.toNat
def freeB (T:WkT)(b:Nat):Bool:= !T.lv b&& !T.tk b
def leastB (T:WkT)(n:Nat):Option Nat:=(List.range n).find? (freeB T)
def hcs (p ba n lv:Nat)(ov:Option Nat):List Value:=[pz p,vn ba,vn n,.map (some lv),.pointer (ov.map λ w=>(⟨w,0,none⟩:Addr))]
def wcs (h t tk gv ls:Nat)(over:Bool):List Value:=[pz h,pz t,.map (some tk),.map (some gv),vn ls,.bool over]
def WkA (X:WkX)(Y:WkY)(s:DevS):SP:=pt X.h (cl (hcs X.p X.ba X.n X.lv (some X.w)) 210)*pt X.w (cl (wcs X.h X.t X.tk X.gv Y.ls false) 66)*pt X.lv (mpo .i64 Y.Ml)*pt X.tk (mpo .i64 Y.Mt)*pt X.gv (mpo .i64 Y.Mg)*TxA X.t X.p X.lg X.d X.mb X.at_ X.sz Y.M false s
structure WkB (X:WkX) (s:DevS):Prop where
  lo:128<=X.ba
  hi:X.ba+256*X.n<=s.ls.length*64
  top:s.ls.length*64<=4194304
section
variable {A R:SP} {C:SP->SP} {X:WkX} {Y:WkY} {s:DevS} (hc:Ct A (WkA X Y s) R C)
include hc
end
attribute [local irreducible] crk crL crc Sl pt ro Dev imgS recS readS recsF rdW rdO rkT Parts rvl recordsS runsL adrF kcl xcl kys runA runsF layF ovF TxA adZ
end Go.Vl

namespace Go.Vl
open Go Go.Proofs Go.Proofs.Tryz
def WkT.take (T:WkT)(b:Nat):WkT:={ T with tk:=updG T.tk b true }
def WkT.give (T:WkT)(b:Nat):WkT:=if T.tk b then { T with tk:=updG T.tk b false } else { T with gv:=updG T.gv b true }
def WkT.write (T:WkT)(ba b:Nat)(xs:List Nat):WkT:={ T with f:=layF (ba+256*b) xs (T.tk b) T.f }
attribute [local irreducible] crk crL crc Sl pt ro Dev imgS recS readS recsF rdW rdO rkT Parts rvl recordsS runsL adrF kcl xcl kys runA runsF layF ovF TxA adZ WkA
end Go.Vl

namespace Go.Vl
open Go Go.Proofs Go.Proofs.Tryz
def onL (zs:List Nat):Nat->Bool:=λ c=>decide (c∈zs)
def natI (zs:List Nat):List Int:=zs.map λ a:Nat=>(a:Int)
attribute [local irreducible] crk crL crc Sl pt ro Dev imgS recS readS recsF rdW rdO rkT Parts rvl recordsS runsL adrF kcl xcl kys runA runsF layF ovF TxA adZ WkA
end Go.Vl

namespace Go.Vl
open Go Go.Proofs Go.Proofs.Tryz
def nblk (n:Nat):Nat:=if n%248=0 then n/248 else n/248+1
def blkS (next:Nat)(xs:List Nat):List Nat:=le 4 next++le 2 xs.length++le 2 0++xs++List.replicate (248-xs.length) 0
abbrev Lk:=Nat×List Nat×Int
def lnkS (u:Nat->Bool)(c:Nat->List Nat)(ref:Nat):Lk×Nat:=
  if 1<=ref/\ u (ref-1)=true then
    if 1<=nm (((c (ref-1)).drop 4).take 2)/\ nm (((c (ref-1)).drop 4).take 2)<=248/\ (nm ((c (ref-1)).take 4)=0∨nm (((c (ref-1)).drop 4).take 2)=248)∧
        blkS (nm ((c (ref-1)).take 4)) (((c (ref-1)).drop 8).take (nm (((c (ref-1)).drop 4).take 2)))=c (ref-1) then
      ((ref-1,((c (ref-1)).drop 8).take (nm (((c (ref-1)).drop 4).take 2)),0),nm ((c (ref-1)).take 4))
    else ((0,[],140),0)
  else ((0,[],140),0)
def cutL (m:Nat)(l:Lk):Lk:=if 65536<m+l.2.1.length then (0,[],140) else l
def chL (f:Nat->Lk×Nat):Nat->Nat->Nat->List Lk
  |0,_,_=>[]
  |k+1,ref,m=>if ref=0 then [] else if (cutL m (f ref).1).2.2≠0 then [cutL m (f ref).1] else cutL m (f ref).1::chL f k (f ref).2 (m+(f ref).1.2.1.length)
def whL (l:List Lk):List Nat×List Nat×Int:=if l.all (λ x=>decide (x.2.2=0)) then (l.flatMap (·.2.1),l.map (·.1),0) else ([],[],140)
def whS (u:Nat->Bool)(c:Nat->List Nat)(ref:Nat):List Nat×List Nat×Int:=whL (chL (lnkS u c) 65538 ref 0)
inductive Chn (u:Nat->Bool) (c:Nat->List Nat):Nat->List Nat->List Nat->Prop
  |nil:Chn u c 0 [] []
  |cons {b next:Nat} {d t l:List Nat} (hu:u b=true) (hc:c b=blkS next d) (h1:1<=d.length) (h2:d.length<=248) (h3:next=0∨d.length=248) (hn:next<4294967296) (h:Chn u c next t l):Chn u c (b+1) (d++t) (b::l)
def conB (T:WkT)(s:DevS)(ba b:Nat):List Nat:=ovF T.f (ba+256*b) (((imgS s).drop (ba+256*b)).take 256)
def takeL (n:Nat):Nat->WkT->List Nat×WkT×Bool
  |0,T=>([],T,true)
  |k+1,T=>match leastB T n with
    |none=>([],T,false)
    |some b=>(b::(takeL n k (T.take b)).1,(takeL n k (T.take b)).2)
def wrL (ba:Nat):List Nat->WkT->List Nat->WkT
  |[],T,_=>T
  |[b],T,s=>T.write ba b (blkS 0 s)
  |b::c::l,T,s=>wrL ba (c::l) (T.write ba b (blkS (c+1) (s.take 248))) (s.drop 248)
def refL:List Nat->Nat
  |[]=>0
  |b::_=>b+1
def putS (ba n:Nat)(T:WkT)(s:List Nat):Nat×Int×WkT:=
  if 65536<s.length then (0,4,T)
  else if (takeL n (nblk s.length) T).2.2=true then (refL (takeL n (nblk s.length) T).1,0,wrL ba (takeL n (nblk s.length) T).1 (takeL n (nblk s.length) T).2.1 s)
  else (0,7,(takeL n (nblk s.length) T).2.1)
def takeS (n:Nat)(T:WkT):Nat×Int×WkT:=match leastB T n with
  |none=>(0,7,T)
  |some b=>(b,0,T.take b)
section
variable {α:Type} {lt:α->α->Bool}
structure SWO (lt:α->α->Bool):Prop where
  asymm:∀a b,lt a b=true->lt b a=false
  ntrans:∀a b c,lt b a=false->lt c b=false->lt c a=false
def leF (lt:α->α->Bool)(a b:α):Bool:= !lt b a
def Sd (lt:α->α->Bool)(l:List α):Prop:=l.Pairwise λ a b=>lt b a=false
def eqv (lt:α->α->Bool)(a b:α):Bool:= !lt a b&& !lt b a
structure SS (lt:α->α->Bool) (l r:List α):Prop where
  sd:Sd lt r
  eq:∀a,r.filter (eqv lt a)=l.filter (eqv lt a)
def mg (lt:α->α->Bool):List α->List α->List α
  |[],ys=>ys
  |xs,[]=>xs
  |x::xs,y::ys=>if lt y x then y::mg lt (x::xs) ys else x::mg lt xs (y::ys)
termination_by xs ys=>xs.length+ys.length
end
section
variable {α:Type} {lt:α->α->Bool}
def sw (l:List α)(p q:Nat):List α:=if h:p<l.length/\ q<l.length then (l.set p (l[q]'h.2)).set q (l[p]'h.1) else l
def swR (l:List α)(a b:Nat):Nat->List α
  |0=>l
  |n+1=>sw (swR l a b n) (a+n) (b+n)
def Blk (lt:α->α->Bool)(bs:Nat)(l d:List α):Prop:=d.length=l.length/\∀k,SS lt ((l.drop (k*bs)).take bs) ((d.drop (k*bs)).take bs)
structure Blm (lt:α->α->Bool) (bs a:Nat) (l d:List α):Prop where
  len:d.length=l.length
  two:∀k,(k+1)*(2*bs)<=a->SS lt ((l.drop (k*(2*bs))).take (2*bs)) ((d.drop (k*(2*bs))).take (2*bs))
  one:∀k,a<=k*bs->SS lt ((l.drop (k*bs)).take bs) ((d.drop (k*bs)).take bs)
def srt (lt:α->α->Bool)(l:List α):List α:=l.foldl (λ acc x=>mg lt acc [x]) []
end
section
variable {α:Type} {lt:α->α->Bool}
structure InsR (lt:α->α->Bool) (p q:Nat) (d d2:List α):Prop where
  len:d2.length=d.length
  pre:d2.take p=d.take p
  post:d2.drop q=d.drop q
  ss:SS lt ((d.drop p).take (q-p)) ((d2.drop p).take (q-p))
def insT (d:List α)(x:α)(i j:Nat):List α:=d.take j++x::((d.drop j).take (i-j)++d.drop (i+1))
def rotT (d:List α)(p m q:Nat):List α:=d.take p++((d.drop m).take (q-m)++((d.drop p).take (m-p)++d.drop q))
def RotI (m i j:Nat)(d T:List α):Prop:=∃P X Y Q:List α,d=P++(X++(Y++Q))/\ P.length+i=m/\ X.length=i/\ Y.length=j/\ P++(Y++(X++Q))=T
def symT (lt:α->α->Bool)(d:List α)(p m q:Nat):List α:=d.take p++(mg lt ((d.drop p).take (m-p)) ((d.drop m).take (q-m))++d.drop q)
end
structure Mk where
  id:Nat
  at_:Int
  gr:Nat
deriving DecidableEq
def Mk.cells (m:Mk):List Value:=[.int .u32 (m.id:Nat),.int .i64 m.at_,.int .u8 (m.gr:Nat)]
def mcs (l:List Mk):List Value:=l.flatMap Mk.cells
structure OrdF (gf:Nat) (cf:Mk->Mk->Int):Prop where
  body:bodyB Tryz.prog gf=true
  run:∀ (A:SP) (x y:Mk),Fn Tryz.prog gf #[.agg x.cells.toArray,.agg y.cells.toArray] A (λ v B=>v= .int .i64 (cf x y)/\ A=B)
def ltc (cf:Mk->Mk->Int)(x y:Mk):Bool:=decide (cf x y<0)
def gA (d:List Mk)(k:Nat):Mk:=d.getD k ⟨0,0,0⟩
section
variable {α:Type} {lt:α->α->Bool}
def fwT (d:List α)(x:α)(p k:Nat):List α:=d.take p++((d.drop (p+1)).take (k-p)++x::d.drop (k+1))
end
section
variable {α:Type} {lt:α->α->Bool}
structure Bl1 (lt:α->α->Bool) (bs a:Nat) (l d:List α):Prop where
  len:d.length=l.length
  done:∀k,(k+1)*bs<=a->SS lt ((l.drop (k*bs)).take bs) ((d.drop (k*bs)).take bs)
  rest:d.drop a=l.drop a
end
def intK (P : Program) (f : Field) (k : IntKind) : Bool := f.name != "_" && plainE P f.type && (match P.underlying f.type with | some (.int j) => j == k | _ => false)
def zk (ks:List IntKind)(l:List Int):List Value:=List.zipWith Value.int ks l
def flatK (P:Program)(fs:Array Field)(ks:List IntKind):Bool:=((fs.toList.map λ f=>f.offset)==List.range ks.length)&&fs.toList.all λ f=>intK P f (ks.getD f.offset .i64)
def Mk.ns (m:Mk):List Int:=[(m.id:Int),m.at_,(m.gr:Int)]
def mkk:List IntKind:=[.u32,.i64,.u8]
section
variable {n:Nat} {ρ:Env} {A:SP} {dst:Option Tmp} {ty:TypeId} {pos:String} {after:Array Edge} {gd:Option (Nat×Bool)}
end
def cId (x y:Mk):Int:=if x.id<y.id then-1 else if y.id<x.id then 1 else 0
def cPl (x y:Mk):Int:=if x.at_<y.at_ then-1 else if y.at_<x.at_ then 1 else cId x y
attribute [local irreducible] Sl pt ro
def okM (m:Mk):Bool:=decide (0<=m.at_)&&decide (m.gr<=1)
end Go.Vl

namespace Go.Vl
open Go Go.Proofs Go.Proofs.Tryz
def SlB (e:TypeId)(v:Value)(n:Nat)(xs:List Value):SP:=λ h=>xs.length=n∧
  ((v = .slice none 0 0 ∧ n = 0 ∧ h = fun _ => none) ∨
   ∃b cap l,v= .slice (some ⟨b,0,none⟩) n cap/\ n<=cap/\ cap<=l.length/\ l.take n=xs/\ pt b (cl l e) h)
section
variable {P:Program} {n:Nat} {ρ:Env} {A:SP} {dst:Option Tmp} {ty:TypeId} {pos:String} {after:Array Edge} {gd:Option (Nat×Bool)}
end
section
variable {P:Program} {n:Nat} {ρ:Env} {A:SP} {dst:Option Tmp} {ty:TypeId} {pos:String} {after:Array Edge} {gd:Option (Nat×Bool)}
end
def bdc (p v:Value):List Value:=[p,v]
attribute [local irreducible] Sl pt ro SlB
end Go.Vl

namespace Go.Vl
open Go Go.Proofs Go.Proofs.Tryz
def lkV (x:Lk):Value:= .agg ([vn x.1,.string (sob x.2.1),.int .i64 x.2.2]:List Value).toArray
attribute [local irreducible] crk crL crc Sl pt ro Dev imgS recS readS recsF rdW rdO rkT Parts rvl recordsS runsL adrF kcl xcl kys runA runsF layF ovF TxA adZ WkA SlB blkS conB
namespace Rg
end Rg
end Go.Vl

namespace Go.Vl
open Go Go.Proofs Go.Proofs.Tryz
def nB (bl:Int):Nat:=(1+(IntKind.i64.wrap (bl-1))%60).toNat
def wasL (n:Nat)(live:List Nat):List Bool:=(List.range n).map λ c=>decide (c∈live)
def imS (n:Nat)(fs:List (List Nat))(st:List Nat×List Nat)(z:Int):List Nat×List Nat:=
  if (z%(n:Int)).toNat∈st.2 then st
  else (if st.2.length<fs.length then spl st.1 (16512+256*(z%(n:Int)).toNat) ((fs.getD st.2.length []).take 256) else st.1,st.2++[(z%(n:Int)).toNat])
def imF (n:Nat)(fs:List (List Nat))(ls:List Int):List Nat×List Nat:=ls.foldl (imS n fs) (List.replicate (16512+256*n) 0,[])
structure ImOk (n:Nat) (st:List Nat×List Nat):Prop where
  len:st.1.length=16512+256*n
  lt:∀c∈st.2,c<n
  nd:st.2.Nodup
  by_:∀x∈st.1,x<256
  z:st.1.take 16512=List.replicate 16512 0
def RsRows (A:SP)(a:Option Addr)(fs:List (List Nat)):Prop:=∃vs:List Value,vs.length=fs.length/\ Rs A a vs/\∀i (h:i<fs.length),∃b c,vs[i]? =some (.slice b fs[i].length c)/\ fs[i].length<=c/\ fs[i].length<=140737488351232/\ Rs A b (bys fs[i])
attribute [local irreducible] crk crL crc Sl pt ro Dev imgS recS readS recsF rdW rdO rkT Parts rvl recordsS runsL adrF kcl xcl kys runA runsF layF ovF TxA adZ WkA SlB blkS conB imF
end Go.Vl

namespace Go.Vl
open Go Go.Proofs Go.Proofs.Tryz
def kdT (f:TF)(a:Nat):Int:=match f a with
  |none=>0
  |some c=>if c.2 then 2 else 1
def lineC (f:TF)(d:Nat):List Value:=Value.int .i64 ((d:Nat):Int)::(bys ((List.range 64).map λ j=>byF f (64*d+j))++ints ((List.range 64).map λ j=>kdT f (64*d+j)))
def putB (f:TF)(a x:Nat)(fr:Bool):TF:=λ c=>if c=a then some (x,((f a).map (·.2)).getD fr) else f c
def RLines:List Nat->List Nat->TF->SP
  |v::vs,d::D,f=>RLines vs D f*pt v (cl (lineC f d) 330)
  |_,_,_=>emp
def ptrV (vs:List Nat):List Value:=vs.map λ v=>(pz v)
def posL (n:Nat):List Nat->Nat
  |[]=>0
  |d::D=>if d<n then posL n D+1 else 0
def insD (n:Nat)(D:List Nat):List Nat:=D.take (posL n D)++n::D.drop (posL n D)
def line0 (d:Nat):List Value:=Value.int .i64 ((d:Nat):Int)::(bys (List.replicate 64 0)++ints (List.replicate 64 0))
attribute [local irreducible] crk crL crc Sl pt ro Dev imgS recS readS recsF rdW rdO rkT Parts rvl recordsS runsL adrF kcl xcl kys runA runsF layF ovF TxA adZ WkA SlB blkS conB imF RDev lineC RLines
end Go.Vl

namespace Go.Vl
open Go Go.Proofs Go.Proofs.Tryz
def putsF (f:TF)(p:Nat)(X:List Nat)(fr:Bool):Nat->TF
  |0=>f
  |i+1=>putB (putsF f p X fr i) (p+i) (X.getD i 0) fr
def LnOk (k:Nat)(D:List Nat)(f:TF):Prop:=D.Pairwise (·<·)/\ (∀x,f x≠none->x/64∈D)/\ (∀d∈D,d<k)/\∀d∈D,∃x,f x≠none/\ x/64=d
attribute [local irreducible] crk crL crc Sl pt ro Dev imgS recS readS recsF rdW rdO rkT Parts rvl recordsS runsL adrF kcl xcl kys runA runsF layF ovF TxA adZ WkA SlB blkS conB imF RDev lineC RLines
end Go.Vl

namespace Go.Vl
open Go Go.Proofs Go.Proofs.Tryz
def lnA (kd:Bool)(f:TF)(d j:Nat):List Nat:=((List.range j).map λ k=>64*d+k).filter (isK f kd)
def adL (kd:Bool)(f:TF)(D:List Nat):List Nat:=D.flatMap λ d=>lnA kd f d 64
attribute [local irreducible] crk crL crc Sl pt ro Dev imgS recS readS recsF rdW rdO rkT Parts rvl recordsS runsL adrF kcl xcl kys runA runsF layF ovF TxA adZ WkA SlB blkS conB imF RDev lineC RLines
end Go.Vl

namespace Go.Vl
open Go Go.Proofs Go.Proofs.Tryz
def hasK (kd:Bool)(f:TF)(d:Nat):Bool:=(List.range 64).any λ k=>isK f kd (64*d+k)
attribute [local irreducible] crk crL crc Sl pt ro Dev imgS recS readS recsF rdW rdO rkT Parts rvl recordsS runsL adrF kcl xcl kys runA runsF layF ovF TxA adZ WkA SlB blkS conB imF RDev lineC RLines
end Go.Vl

namespace Go.Vl
open Go Go.Proofs Go.Proofs.Tryz
def runG (L:List (Nat×List Nat)):Prop:=L.Pairwise (λ r s=>r.1+r.2.length<s.1)/\∀r∈L,1<=r.2.length
attribute [local irreducible] crk crL crc Sl pt ro Dev imgS recS readS recsF rdW rdO rkT Parts rvl recordsS runsL adrF kcl xcl kys runA runsF layF ovF TxA adZ WkA SlB blkS conB imF RDev lineC RLines
end Go.Vl

namespace Go.Vl
open Go Go.Proofs Go.Proofs.Tryz
theorem runP_b {n:Nat}{k:Bool}{f:TF}(hb:∀a c,f a=some c->c.1<256):∀i,i<=(adrF n k f).length->RunP n i (runsL f ((adrF n k f).take i))
  |0,_=>⟨rfl,Nat.le_refl _,λ r h=>(by cases h)⟩
  |i+1,h=>by
    rw [runs_next (out:=runsL f ((adrF n k f).take i)) rfl oqz]
    obtain ⟨c,hf,_,hn⟩:=adr_at (n:=n) (k:=k) (f:=f) (i:=i) oqz;exact runP_step (runP_b hb i oqz) hn (by rw [byF_some hf];exact hb _ _ hf)
theorem runP_Fb {n:Nat}{k:Bool}{f:TF}(hb:∀a c,f a=some c->c.1<256):RunP n (adrF n k f).length (runsF n k f):=by
  have:=runP_b (k:=k) (n:=n) hb (adrF n k f).length (Nat.le_refl _);rw [List.take_length] at this;unfold runsF;exact this
attribute [local irreducible] crk crL crc Sl pt ro Dev imgS recS readS recsF rdW rdO rkT Parts rvl recordsS runsL adrF kcl xcl kys runA runsF layF ovF TxA adZ WkA SlB blkS conB imF RDev lineC RLines
end Go.Vl

namespace Go.Vl
open Go Go.Proofs Go.Proofs.Tryz
theorem nodup_sub {α:Type}[DecidableEq α]:∀{l G:List α},l.Nodup->(∀x∈l,x∈G)->l.length<=G.length
  |[],_,_,_=>Nat.zero_le _
  |x::l,G,hn,hs=>by
    obtain ⟨h1,h2⟩:=List.nodup_cons.1 hn;have hx:=hs x (by simp);have:=nodup_sub (l:=l) (G:=G.erase x) h2 λ y hy=>(List.mem_erase_of_ne (by intro e;subst e;exact h1 hy)).2 (hs y (List.mem_cons_of_mem _ hy))
    rw [List.length_erase_of_mem hx] at this
    have:=List.length_pos_of_mem hx;rw [List.length_cons];omega
def kdO (f:TF)(a:Nat):Option Bool:=(f a).map (·.2)
theorem isK_iff {f:TF}{k:Bool}{a:Nat}:isK f k a=true↔kdO f a=some k:=by unfold isK kdO;simp
theorem kdO_none {f:TF}{a:Nat}:f a=none↔kdO f a=none:=by unfold kdO;cases f a<;>simp
theorem kdO_lay {p:Nat}{X:List Nat}{fr:Bool}{f:TF}{a:Nat}:kdO (layF p X fr f) a=if p<=a/\ a<p+X.length then some ((kdO f a).getD fr) else kdO f a:=by
  unfold kdO layF
  split<;>rfl
structure PutG (G:List Nat) (f:TF):Prop where
  st:∀a,kdO f a=some false->(∀b,b+1=a->kdO f b≠some false)->a∈G
  en:∀a,kdO f a=some true->kdO f (a+1)=none->a+1∈G
theorem putG_nil:PutG [] tf0:=⟨λ a h=>by simp [kdO,tf0] at h,λ a h=>by simp [kdO,tf0] at h⟩
theorem putG_lay {G:List Nat}{f:TF}{p:Nat}{X:List Nat}{fr:Bool}(h:PutG G f):PutG ((if fr=true then p+X.length else p)::G) (layF p X fr f):=by
  refine ⟨λ a ha hb=> ?_,λ a ha hb=> ?_⟩
  . by_cases hold:kdO f a=some false
    . refine List.mem_cons_of_mem _ (h.st a hold λ b hba hkb=>hb b hba ?_);rw [kdO_lay,hkb];split<;>rfl
    rw [kdO_lay] at ha
    split at ha
    . rename_i hin
      cases hk:kdO f a with
      |some k=>rw [hk] at ha hold;simp at ha;exact absurd (by rw [ha]) hold
      |none=>
        rw [hk] at ha
        simp only [Option.getD_none,Option.some.injEq] at ha
        subst ha;rw [if_neg (by decide)]
        by_cases hap:a=p
        . rw [hap];exact List.mem_cons_self
        have hb1:=hb (a-1) oqz;rw [kdO_lay,if_pos oqz] at hb1
        cases hk1:kdO f (a-1) with
        |none=>rw [hk1] at hb1;simp at hb1
        |some k1=>
          rw [hk1] at hb1
          cases k1 with
          |false=>simp at hb1
          |true=>
            have:=h.en (a-1) hk1 (by rw [show a-1+1=a by omega];exact hk);rw [show a-1+1=a by omega] at this
            exact List.mem_cons_of_mem _ this
    exact absurd ha hold
  rw [kdO_lay] at hb
  split at hb
  . cases hb
  rename_i hnin
  by_cases hold:kdO f a=some true
  . exact List.mem_cons_of_mem _ (h.en a hold hb)
  rw [kdO_lay] at ha
  split at ha
  . rename_i hin
    cases hk:kdO f a with
    |some k=>rw [hk] at ha hold;simp at ha;exact absurd (by rw [ha]) hold
    |none=>
      rw [hk] at ha
      simp only [Option.getD_none,Option.some.injEq] at ha
      subst ha;rw [if_pos rfl,show a+1=p+X.length by omega]
      exact List.mem_cons_self
  exact absurd ha hold
theorem runs_len {G:List Nat}{f:TF}{n:Nat}(h:PutG G f)(hout:∀a,n<=a->f a=none):(runsF n false f).length<=G.length:=by
  have hQ:=runQ_F n false f
  have hnd:((runsF n false f).map (·.1)).Nodup:=by
    rw [List.nodup_iff_pairwise_ne,List.pairwise_map]
    refine List.pairwise_iff_getElem.2 λ i j hi hj hij=> ?_
    have h1:=List.pairwise_iff_getElem.1 hQ.gap i j hi hj hij;have h2:=hQ.pos _ (List.getElem_mem hi)
    omega
  have:=nodup_sub (G:=G) hnd λ x hx=>by
    obtain ⟨r,hr,rfl⟩:=List.mem_map.1 hx;have hp:=hQ.pos r hr;obtain ⟨g1,_⟩:=hQ.kind r hr 0 oqz;rw [Nat.add_zero] at g1
    refine h.st r.1 (isK_iff.1 g1) λ b hb hkb=> ?_
    have hbn:b<n:=by
      rcases Nat.lt_or_ge b n with h9|h9
      . exact h9
      rw [kdO_none.1 (hout b h9)] at hkb;cases hkb
    obtain ⟨s,hs,s1,s2⟩:=hQ.cov b (adr_mem.2 ⟨hbn,isK_iff.2 hkb⟩);obtain ⟨i,hi,rfl⟩:=List.mem_iff_getElem.1 hr;obtain ⟨j,hj,rfl⟩:=List.mem_iff_getElem.1 hs
    rcases Nat.lt_trichotomy i j with hij|hij|hij
    . have:=List.pairwise_iff_getElem.1 hQ.gap i j hi hj hij;omega
    . subst hij;omega
    have:=List.pairwise_iff_getElem.1 hQ.gap j i hj hi hij;omega
  rwa [List.length_map] at this
theorem filter_or {α:Type}{p q r:α->Bool}(h:∀x,p x=true->q x=true∨r x=true):∀l:List α,(l.filter p).length<=(l.filter q).length+(l.filter r).length
  |[]=>Nat.le_refl _
  |x::l=>by
    have ih:=filter_or h l;have hx:=h x
    simp only [List.filter_cons]
    cases hp:p x<;>cases hq:q x<;>cases hr:r x<;>simp [hp,hq,hr] at hx ⊢<;>omega
theorem adr_lay {n p:Nat}{X:List Nat}{fr k:Bool}{f:TF}:(adrF n k (layF p X fr f)).length<=(adrF n k f).length+X.length:=by
  unfold adrF
  refine Nat.le_trans (filter_or (q:=isK f k) (r:=λ a=>decide (p<=a/\ a<p+X.length)) (λ a ha=> ?_) _) (Nat.add_le_add_left ?_ _)
  . by_cases hin:p<=a/\ a<p+X.length
    . exact .inr (decide_eq_true hin)
    refine .inl (isK_iff.2 ?_);have:=isK_iff.1 ha
    rwa [kdO_lay,if_neg hin] at this
  have:=nodup_sub (l:=(List.range n).filter λ a=>decide (p<=a/\ a<p+X.length)) (G:=List.range' p X.length) (List.nodup_range.filter _) (λ x hx=>by
    have:=of_decide_eq_true (List.mem_filter.1 hx).2
    rw [List.mem_range'_1];omega)
  rwa [List.length_range'] at this
theorem need_runs:∀ (L:List (Nat×List Nat)),needN (extX L)<=31*L.length+sumL L
  |[]=>Nat.le_refl _
  |r::L=>by
    have ih:=need_runs L;have h1:=up8_le r.2.length
    show needN (((r.1:Int),(r.2.length:Int))::extX L)<=_
    rw [needN_cons,sumL_cons,List.length_cons]
    simp only [Int.toNat_natCast]
    omega
theorem laysK_G (l:List Pu12):∀i,∃G:List Nat,G.length<=i/\ PutG G (laysK l i)/\ (adrF 1024 false (laysK l i)).length<=12*i
  |0=>⟨[],Nat.le_refl _,putG_nil,by rw [laysK_zero];unfold adrF;rw [List.filter_eq_nil_iff.2 (λ a _ h=>by have:=isK_iff.1 h;simp [kdO,tf0] at this)];exact Nat.le_refl _⟩
  |i+1=>by
    obtain ⟨G,h1,h2,h3⟩:=laysK_G l i
    cases hx:l[i]? with
    |none=>
      have hle:l.length<=i:=List.getElem?_eq_none_iff.1 hx;have e:laysK l (i+1)=laysK l i:=(laysK_all oqz).trans (laysK_all hle).symm;rw [e];exact ⟨G,by omega,h2,by omega⟩
    |some x=>
      rw [laysK_succ hx]
      unfold lay12
      have hpl:=pl_in x.q x.b.length;have hlen:(x.b.take (plN x.q x.b.length)).length<=12:=(by rw [List.length_take];omega);exact ⟨_,by rw [List.length_cons];omega,putG_lay h2,Nat.le_trans adr_lay oqz⟩
theorem laysK_need {l:List Pu12}{i:Nat}(hi:i<=8)(hout:∀a,1024<=a->laysK l i a=none)(hby:∀a c,laysK l i a=some c->c.1<256):needN (extX (runsF 1024 false (laysK l i)))<=512:=by
  obtain ⟨G,h1,h2,h3⟩:=laysK_G l i;have h4:=runs_len (n:=1024) h2 hout;have h5:=(runP_Fb (n:=1024) (k:=false) hby).sum;have h6:=need_runs (runsF 1024 false (laysK l i))
  omega
theorem fl1_loss {X:Nat->List Nat->Prop}{q:Nat}{s:DevS}(hw:WfD s)(hO:s.off=false)(hP:Poss X s)(hq:q<s.ls.length):
    ∃e s2,fl1 ((q*64:Nat):Int) s=(e,s2)/\ ((e=0/\ s2.off=false/\ WfD s2/\ s2.ls=flsh 1 q s.ls)∨(e=5/\ Lost X s.ls.length s2)):=by
  obtain ⟨e,s2,g1,g2⟩:=flL_loss (X:=X) 1 q s hw hO hP oqz;have h1:flL 1 q s=if (fl1 ((q*64:Nat):Int) s).1≠0 then fl1 ((q*64:Nat):Int) s else (0,(fl1 ((q*64:Nat):Int) s).2):=rfl;obtain ⟨e1,s1,hf⟩:∃e1 s1,fl1 ((q*64:Nat):Int) s=(e1,s1):=⟨_,_,rfl⟩;rw [hf] at h1
  simp only [] at h1
  have h2:flL 1 q s=(e1,s1):=by
    rw [h1];split
    . rfl
    rename_i h0;rw [Classical.not_not.1 h0]
  rw [h2] at g1
  obtain ⟨rfl,rfl⟩:=pair_eq g1 rfl;exact ⟨_,_,hf,g2⟩
theorem as_flsh {L0:List (Nat×List Nat)}{I:List Nat}{q:Nat}{s s2:DevS}(hA:AS L0 I s)(hw:WfD s2)(h:s2.ls=flsh 1 q s.ls):AS L0 I s2/\ s2.ls.length=s.ls.length/\ imgS s2=imgS s/\ (∀k,Room k s->Room k s2)/\ (∀j,j=q∨Mkd j s->Mkd j s2):=by
  have hlen:s2.ls.length=s.ls.length:=(by rw [h,flsh_len])
  have hget:∀j l',s2.ls[j]? =some l'->∃l,s.ls[j]? =some l/\ l'=if q<=j/\ j<q+1 then flushL l else l:=λ j l' hl=>by
    rw [h] at hl;exact flsh_get hl
  have hst:∀ (j:Nat) (l':LineS),s2.ls[j]? =some l'->∃l:LineS,s.ls[j]? =some l/\ l'.st=l.st:=λ j l' hl=>by
    obtain ⟨l,e1,e2⟩:=hget j l' hl;exact ⟨l,e1,by rw [e2];split<;>rfl⟩
  refine ⟨⟨hw,by rw [hlen];exact hA.len,poss_sub hA.poss λ j l' hl=> ?_,λ j l' hj hl=> ?_⟩,hlen, ?_,λ k hr l' hl=> ?_,λ j hj l' hl=> ?_⟩
  . obtain ⟨l,e1,e2⟩:=hst j l' hl;exact ⟨l,e1,λ σ hσ=>e2▸hσ⟩
  . obtain ⟨l,e1,e2⟩:=hst j l' hl;rw [e2];exact hA.one j l hj e1
  . unfold imgS;rw [h];exact img_seen (flsh_seen _ _ _)
  . obtain ⟨j,hj,rfl⟩:=List.mem_iff_getElem.1 hl;obtain ⟨l,e1,e2⟩:=hst j _ (List.getElem?_eq_getElem hj);rw [e2];exact hr l (List.mem_of_getElem? e1)
  obtain ⟨l,e1,e2⟩:=hget j l' hl
  rcases hj with rfl|hj
  . rw [if_pos oqz] at e2
    rw [e2];rfl
  rw [e2];split
  . rfl
  exact hj l e1
theorem flLs_loss {L0:List (Nat×List Nat)}{I:List Nat}:∀{l:List Nat} {s:DevS},AS L0 I s->s.off=false->(∀q∈l,q<s.ls.length)→
    ∃e s2,flLs l s=(e,s2)/\ s2.ls.length=s.ls.length/\ AS L0 I s2/\ ((e=0/\ s2.off=false/\ imgS s2=imgS s/\ (∀k,Room k s->Room k s2)/\ (∀j,j∈l∨Mkd j s->Mkd j s2))∨(e=5/\ s2.off=true))
  |[],s,hA,hO,_=>⟨0,s,rfl,rfl,hA,.inl ⟨rfl,hO,rfl,λ _ h=>h,λ j h=>h.elim (λ h=>by cases h) id⟩⟩
  |q::l,s,hA,hO,hq=>by
    obtain ⟨e,s1,g1,g2⟩:=fl1_loss (X:=XU L0 I) hA.wf hO hA.poss (hq q (by simp))
    rcases g2 with ⟨rfl,a2,a3,a4⟩|⟨rfl,a2⟩
    . obtain ⟨b1,b2,b3,b4,b5⟩:=as_flsh hA a3 a4;obtain ⟨e,s2,k1,k2,k3,k4⟩:=flLs_loss (l:=l) b1 a2 (λ x hx=>by rw [b2];exact hq x (List.mem_cons_of_mem _ hx));refine ⟨e,s2, ?_,k2.trans b2,k3, ?_⟩
      . rw [flLs_cons,g1,if_neg (by simp)];exact k1
      rcases k4 with ⟨c1,c2,c3,c4,c5⟩|k4
      . refine .inl ⟨c1,c2,c3.trans b3,λ k h=>c4 k (b4 k h),λ j hj=> ?_⟩
        rcases hj with hj|hj
        . rcases List.mem_cons.1 hj with rfl|hj
          . exact c5 j (.inr (b5 j (.inl rfl)))
          exact c5 j (.inl hj)
        exact c5 j (.inr (b5 j (.inr hj)))
      exact .inr k4
    refine ⟨5,s1, ?_,a2.2.2.2.2,as_lost a2 hA.len,.inr ⟨rfl,a2.1⟩⟩;rw [flLs_cons,g1,if_pos (show (5:Int)≠0 by decide)]
def stoI:List (Nat×List Nat)->List Nat->List Nat
  |[],I=>I
  |r::l,I=>stoI l (spl I r.1 r.2)
theorem as_stoL {L0:List (Nat×List Nat)}{I:List Nat}{k:Nat}:∀{R:List (Nat×List Nat)} {s:DevS},AS L0 I s->s.off=false->(∀r∈R,r.1+r.2.length<=s.ls.length*64/\ (∀b∈r.2,b<256)/\∀i,r.1<=i->i<r.1+r.2.length->InX L0 i)->Room (k+sumL R) s→
    ∃e s2,stoL R s=(e,s2)/\ s2.ls.length=s.ls.length/\ AS L0 I s2/\ ((e=0/\ s2.off=false/\ Room k s2/\ imgS s2=stoI R (imgS s))∨(e=5/\ s2.off=true))
  |[],s,hA,hO,_,hr=>⟨0,s,rfl,rfl,hA,.inl ⟨rfl,hO,room_le hr oqz,rfl⟩⟩
  |r::R,s,hA,hO,hR,hr=>by
    obtain ⟨h1,h2,h3⟩:=hR r (by simp);rw [sumL_cons] at hr
    obtain ⟨e,s1,g1,g2⟩:=as_sto (r:=k+sumL R) hA hO h1 h3 h2 (room_le hr oqz)
    rcases g2 with ⟨rfl,a2,a3,a4,a5,a6⟩|⟨rfl,a2,a3,a4⟩
    . obtain ⟨e,s2,k1,k2,k3,k4⟩:=as_stoL (R:=R) a3 a2 (λ x hx=>by rw [a4];exact hR x (List.mem_cons_of_mem _ hx)) a5;refine ⟨e,s2, ?_,k2.trans a4,k3, ?_⟩
      . rw [stoL_cons,g1,if_neg (by simp)];exact k1
      rcases k4 with ⟨c1,c2,c3,c4⟩|k4
      . exact .inl ⟨c1,c2,c3,by rw [c4,a6];rfl⟩
      exact .inr k4
    refine ⟨5,s1, ?_,a4,a3,.inr ⟨rfl,a2⟩⟩;rw [stoL_cons,g1,if_pos (show (5:Int)≠0 by decide)]
theorem fe_law {L0:List (Nat×List Nat)}{I:List Nat}{s:DevS}(hA:AS L0 I s)(hO:s.off=false)(hM:∀i,InX L0 i->Mkd (i/64) s):
    ∃e s2,fe s=(e,s2)/\ s2.ls.length=s.ls.length/\ ((e=0/\ s2.off=false/\ WfD s2/\ Cln s2/\ imgS s2=imgS s)∨(e=5/\ s2.off=true/\ AS L0 I s2)):=by
  have hwf:=fence_wf hA.wf
  have hPf:Poss (XU L0 I) (fenceS s):=poss_sub hA.poss λ q l' hl'=>by
    obtain ⟨l,h1,rfl⟩:=fence_get hl';exact ⟨l,h1,fence_mem⟩
  have hfe:fe s=(doneE (fenceS s),doneS (fenceS s)):=(by unfold fe;rw [if_neg (by rw [hO];decide)]);have hfl:(fenceS s).ls.length=s.ls.length:=(by simp [fenceS])
  rcases done_loss hwf hPf with ⟨b1,b2,b3⟩|⟨b1,b2⟩
  . refine ⟨0,doneS (fenceS s),by rw [hfe,b1],by rw [b2,hfl],.inl ⟨rfl,by rw [b3];exact hO,doneS_wf hwf,λ l' hl'=> ?_, ?_⟩⟩
    . rw [b2] at hl'
      obtain ⟨q,hq,rfl⟩:=List.mem_iff_getElem.1 hl';obtain ⟨l,e1,e2⟩:=fence_get (show (s.ls.map fenceL)[q]? =some _ from List.getElem?_eq_getElem hq);have hwl:=hA.wf.line l (List.mem_of_getElem? e1);have hpl:=List.length_pos_iff.2 hwl.ne;rw [e2]
      by_cases hU:∀i,InX L0 i->i/64≠q
      . have h1:=hA.one q l hU e1
        unfold fenceL;split
        . have:=hwl.hi;simp only [List.length_drop];omega
        exact h1
      have:∃i,InX L0 i/\ i/64=q:=by
        apply Classical.byContradiction
        intro hn;exact hU λ i hi he=>hn ⟨i,hi,he⟩
      obtain ⟨i,hi,rfl⟩:=this;have h1:=hM i hi l e1
      unfold fenceL
      rw [if_pos oqz]
      simp only [List.length_drop];omega
    unfold imgS;rw [b2]
    show img (s.ls.map fenceL)=_
    refine img_seen ?_;rw [List.map_map]
    exact List.map_congr_left λ l hl=>seen_fence (hA.wf.line l hl)
  rw [hfl] at b2
  exact ⟨5,doneS (fenceS s),by rw [hfe,b1],b2.2.2.2.2,.inr ⟨rfl,b2.1,as_lost b2 hA.len⟩⟩
theorem linR_memW:∀{R:List (Nat×List Nat)} {d:Nat},R.Pairwise (λ r s=>r.1+r.2.length<s.1)->(∀r∈R,1<=r.2.length)->∀r∈R,∀q,r.1/64<=q->q<=(r.1+r.2.length-1)/64->q∈linR R d∨q<d
  |[],_,_,_,r,hr,_,_,_=>by cases hr
  |x::R,d,hg,hp,r,hr,q,h1,h2=>by
    obtain ⟨g1,g2⟩:=List.pairwise_cons.1 hg
    have hin:∀q,x.1/64<=q->q<=(x.1+x.2.length-1)/64->q∈linR (x::R) d∨q<d:=λ q h1 h2=>by
      rcases Nat.lt_or_ge q d with hd|hd
      . exact .inr hd
      refine .inl (List.mem_append_left _ (List.mem_map.2 ⟨q-max (x.1/64) d,List.mem_range.2 oqz,by omega⟩))
    rcases List.mem_cons.1 hr with rfl|hr
    . exact hin q h1 h2
    have hx:=g1 r hr;have hx1:=hp x (by simp)
    rcases linR_memW (d:=max d ((x.1+x.2.length-1)/64+1)) g2 (λ y hy=>hp y (List.mem_cons_of_mem _ hy)) r hr q h1 h2 with h|h
    . exact .inl (List.mem_append_right _ h)
    rcases Nat.lt_or_ge q d with hd|hd
    . exact .inr hd
    exact hin q oqz oqz
theorem linR_top:∀{R:List (Nat×List Nat)} {d n:Nat},(∀r∈R,r.1+r.2.length<=n*64/\ 1<=r.2.length)->∀q∈linR R d,q<n
  |[],_,_,_,q,hq=>by cases hq
  |x::R,d,n,h,q,hq=>by
    rcases List.mem_append.1 hq with hq|hq
    . obtain ⟨j,hj,rfl⟩:=List.mem_map.1 hq;have:=List.mem_range.1 hj;have:=h x (by simp)
      omega
    exact linR_top (λ y hy=>h y (List.mem_cons_of_mem _ hy)) q hq
theorem writeT_law {L0:List (Nat×List Nat)}{I:List Nat}{k:Nat}{R:List (Nat×List Nat)}{s:DevS}(hA:AS L0 I s)(hO:s.off=false)(hg:R.Pairwise λ r s=>r.1+r.2.length<s.1)
    (hR:∀r∈R,1<=r.2.length/\ r.1+r.2.length<=s.ls.length*64/\ (∀b∈r.2,b<256)/\∀i,r.1<=i->i<r.1+r.2.length->InX L0 i) (hr:Room (k+sumL R) s):
    ∃e s2,writeT R s=(e,s2)/\ s2.ls.length=s.ls.length/\ AS L0 I s2/\ ((e=0/\ s2.off=false/\ Room k s2/\ imgS s2=stoI R (imgS s)/\ (∀i,InX R i->Mkd (i/64) s2))∨(e=5/\ s2.off=true)):=by
  obtain ⟨e1,s1,g1,g2,g3,g4⟩:=as_stoL (k:=k) hA hO (λ r h=>⟨(hR r h).2.1,(hR r h).2.2.1,(hR r h).2.2.2⟩) hr
  rcases g4 with ⟨rfl,a2,a3,a4⟩|⟨rfl,a2⟩
  . obtain ⟨e2,s2,k1,k2,k3,k4⟩:=flLs_loss (l:=linR R 0) g3 a2 (λ q hq=>by rw [g2];exact linR_top (λ r h=>⟨(hR r h).2.1,(hR r h).1⟩) q hq);refine ⟨e2,s2, ?_,k2.trans g2,k3, ?_⟩
    . unfold writeT;rw [g1,if_neg (by simp)];exact k1
    rcases k4 with ⟨c1,c2,c3,c4,c5⟩|k4
    . refine .inl ⟨c1,c2,c4 k a3,c3.trans a4,λ i hi=>c5 _ (.inl ?_)⟩;obtain ⟨r,hr9,h1,h2⟩:=hi
      rcases linR_memW (d:=0) hg (λ r h=>(hR r h).1) r hr9 (i/64) oqz oqz with h|h
      . exact h
      exact absurd h (Nat.not_lt_zero _)
    exact .inr k4
  refine ⟨5,s1, ?_,g2,g3,.inr ⟨rfl,a2⟩⟩
  unfold writeT;rw [g1,if_pos (show (5:Int)≠0 by decide)]
theorem fe_loss {X:Nat->List Nat->Prop}{s:DevS}(hw:WfD s)(hO:s.off=false)(hP:Poss X s)(hM:∀ (q:Nat) (l:LineS),s.ls[q]? =some l->l.st.length=1∨l.mark=(l.st.length:Int)-1):
    ∃e s2,fe s=(e,s2)/\ ((e=0/\ s2.off=false/\ WfD s2/\ Cln s2/\ s2.ls.length=s.ls.length/\ imgS s2=imgS s)∨(e=5/\ Lost X s.ls.length s2)):=by
  have hwf:=fence_wf hw
  have hPf:Poss X (fenceS s):=poss_sub hP λ q l' hl'=>by
    obtain ⟨l,h1,rfl⟩:=fence_get hl';exact ⟨l,h1,fence_mem⟩
  have hfe:fe s=(doneE (fenceS s),doneS (fenceS s)):=(by unfold fe;rw [if_neg (by rw [hO];decide)]);have hfl:(fenceS s).ls.length=s.ls.length:=(by simp [fenceS])
  rcases done_loss hwf hPf with ⟨b1,b2,b3⟩|⟨b1,b2⟩
  . refine ⟨0,doneS (fenceS s),by rw [hfe,b1],.inl ⟨rfl,by rw [b3];exact hO,doneS_wf hwf,λ l' hl'=> ?_,by rw [b2,hfl], ?_⟩⟩
    . rw [b2] at hl'
      obtain ⟨q,hq,rfl⟩:=List.mem_iff_getElem.1 hl';obtain ⟨l,e1,e2⟩:=fence_get (show (s.ls.map fenceL)[q]? =some _ from List.getElem?_eq_getElem hq);have hwl:=hw.line l (List.mem_of_getElem? e1);have hpl:=List.length_pos_iff.2 hwl.ne;rw [e2]
      rcases hM q l e1 with h1|h1
      . unfold fenceL;split
        . have:=hwl.hi;simp only [List.length_drop];omega
        exact h1
      unfold fenceL
      rw [if_pos oqz]
      simp only [List.length_drop];omega
    unfold imgS;rw [b2]
    show img (s.ls.map fenceL)=_
    refine img_seen ?_;rw [List.map_map]
    exact List.map_congr_left λ l hl=>seen_fence (hw.line l hl)
  rw [hfl] at b2
  exact ⟨5,doneS (fenceS s),by rw [hfe,b1],.inr ⟨rfl,b2⟩⟩
theorem flF_via:∀ (k q:Nat) (s:DevS),flF k q s=if (flL k q s).1≠0 then flL k q s else fe (flL k q s).2
  |0,q,s=>by rw [flF_zero];rfl
  |k+1,q,s=>by
    have h1:flL (k+1) q s=if (fl1 ((q*64:Nat):Int) s).1≠0 then fl1 ((q*64:Nat):Int) s else flL k (q+1) (fl1 ((q*64:Nat):Int) s).2:=rfl
    show (if (fl1 ((q*64:Nat):Int) s).1≠0 then fl1 ((q*64:Nat):Int) s else flF k (q+1) (fl1 ((q*64:Nat):Int) s).2)=_
    rw [h1]
    by_cases h:(fl1 ((q*64:Nat):Int) s).1≠0
    . rw [if_pos h,if_pos h,if_pos h]
    rw [if_neg h,if_neg h];exact flF_via k (q+1) _
theorem last_loss2 {X:Nat->List Nat->Prop}{p m:Nat}{s:DevS}(hw:WfD s)(hO:s.off=false)(hP:Poss X s)(h1:1<=m)(hp:p+m<=s.ls.length*64)(hc:∀ (q:Nat) (l:LineS),(q+1)*64<=p∨p+m<=q*64->s.ls[q]? =some l->l.st.length=1∨l.mark=(l.st.length:Int)-1):
    ∃e s2,lastS p m s=(e,s2)/\ ((e=0/\ s2.off=false/\ WfD s2/\ Cln s2/\ s2.ls.length=s.ls.length/\ imgS s2=imgS s)∨(e=5/\ Lost X s.ls.length s2)):=by
  unfold lastS
  rw [flF_via]
  obtain ⟨e,s1,g1,g2⟩:=flL_loss (X:=X) ((p+m-1)/64-p/64+1) (p/64) s hw hO hP oqz;rw [g1]
  rcases g2 with ⟨rfl,a2,a3,a4⟩|⟨rfl,a2⟩
  . rw [if_neg (by simp)]
    have hget:∀ (j:Nat) (l':LineS),s1.ls[j]? =some l'->∃l:LineS,s.ls[j]? =some l/\ l'=if p/64<=j/\ j<p/64+((p+m-1)/64-p/64+1) then flushL l else l:=λ j l' hl=>by
      rw [a4] at hl;exact flsh_get hl
    have hln:s1.ls.length=s.ls.length:=(by rw [a4,flsh_len])
    obtain ⟨e,s2,k1,k2⟩:=fe_loss (X:=X) a3 a2 (poss_sub hP λ j l' hl=>by
      obtain ⟨l,e1,e2⟩:=hget j l' hl;refine ⟨l,e1,λ σ hσ=> ?_⟩
      rw [e2] at hσ;split at hσ<;>exact hσ) (λ j l' hl=>by
      obtain ⟨l,e1,e2⟩:=hget j l' hl
      by_cases hj:p/64<=j/\ j<p/64+((p+m-1)/64-p/64+1)
      . rw [if_pos hj] at e2;right;rw [e2];rfl
      rw [if_neg hj] at e2;rw [e2];exact hc j l oqz e1)
    rw [hln] at k2
    refine ⟨e,s2,k1, ?_⟩
    rcases k2 with ⟨c1,c2,c3,c4,c5,c6⟩|k2
    . exact .inl ⟨c1,c2,c3,c4,c5,by rw [c6];unfold imgS;rw [a4];exact img_seen (flsh_seen _ _ _)⟩
    exact .inr k2
  rw [if_pos (show (5:Int)≠0 by decide)]
  exact ⟨5,s1,rfl,.inr ⟨rfl,a2⟩⟩
def bodyX:Nat×List Nat:=(192,List.replicate 512 0)
theorem bodyX_len:bodyX.2.length=512:=by unfold bodyX;rw [List.length_replicate]
theorem bodyX_at:bodyX.1=192:=rfl
theorem inX_body {L:List (Nat×List Nat)}{i:Nat}:InX (L++[bodyX]) i↔InX L i∨(192<=i/\ i<704):=by
  constructor
  . rintro ⟨x,hx,h1,h2⟩
    rcases List.mem_append.1 hx with hx|hx
    . exact .inl ⟨x,hx,h1,h2⟩
    rw [List.mem_singleton.1 hx,bodyX_at] at h1
    rw [List.mem_singleton.1 hx,bodyX_at,bodyX_len] at h2
    exact .inr ⟨h1,h2⟩
  rintro (⟨x,hx,h⟩|h)
  . exact ⟨x,List.mem_append_left _ hx,h⟩
  exact ⟨bodyX,List.mem_append_right _ (List.mem_singleton.2 rfl),h.1,by rw [bodyX_at,bodyX_len];exact h.2⟩
theorem as_mono {L L':List (Nat×List Nat)}{I:List Nat}{s:DevS}(h:AS L I s)(hs:∀i,InX L i->InX L' i):AS L' I s:=
  ⟨h.wf,h.len,poss_mono h.poss λ q c _ hc j hj hn=>hc j hj λ hi=>hn (hs _ hi),λ q l hq hl=>h.one q l (λ i hi=>hq i (hs i hi)) hl⟩
theorem as_cln2 {L:List (Nat×List Nat)}{I:List Nat}{s:DevS}(hw:WfD s)(hc:Cln s)(hI:I.length=s.ls.length*64)(h:∀i,¬InX L i->(imgS s)[i]? =I[i]?):AS L I s:=
  ⟨hw,hI,poss_cln hw hc λ q hq j hj hn=>by rw [chunk_at hj];exact h _ hn,λ q l _ hl=>hc l (List.mem_of_getElem? hl)⟩
theorem write_law {LF:List (Nat×List Nat)}{I0 M:List Nat}{l:List (Int×Int)}{s:DevS}(hA:AS LF I0 s)(hO:s.off=false)(hlen:s.ls.length=16)(hM:imgS s=M)(hmk:∀i,InX LF i->Mkd (i/64) s)(hLF:∀i,InX LF i->(64<=i/\ i<128)∨(704<=i/\ i<1024))(h0:nm ((M.drop 128).take 8)=0)(hl:l.all (mayX 1024 128 576)=true)(hne:l≠[])(hN:needN l<=512)(hr:Room (needN l+1) s):
    ∃e s2,writeS 128 576 l s=(e,s2)/\ s2.ls.length=16/\ ((e=0/\ s2.off=false/\ WfD s2/\ Cln s2/\ imgS s2=wrI 128 M l)∨(e=5/\ s2.off=true/\ (AS (LF++[bodyX]) I0 s2∨(WfD s2/\ Cln s2/\ imgS s2=wrI 128 M l)))):=by
  have hw:=hA.wf;have hlw:LogW (s.ls.length*64) 128 576:=lw12 hlen;have hil:M.length=1024:=(by rw [←hM,imgS_len hw,hlen]);have hI0:I0.length=1024:=(by rw [hA.len,hlen]);have hn64:s.ls.length*64=1024:=(by rw [hlen]);have hwd:=word_in (s:=s) (p:=128) hO (by decide) (by rw [hn64];decide);have hnd:=need_may (n:=1024) (by decide) hl oqz;have hrl:=recsB_len hil hl;have hl1:1<=needN l:=Nat.le_trans (List.length_pos_iff.2 hne) (needN_ge l);have hllt:l.length<18446744073709551616:=Nat.lt_of_le_of_lt (needN_ge l) oqz;have hI1l:(wrI1 128 M l).length=1024:=(by unfold wrI1;rw [spl_length oqz,hil]);have hA2:=as_mono (L':=LF++[bodyX]) hA λ i hi=>inX_body.2 (.inl hi)
  have hMI:∀i,¬InX (LF++[bodyX]) i->M[i]? =I0[i]? :=λ i hi=>by rw [←hM];exact hA2.img hi
  have hXo:∀I:List Nat,I.length=s.ls.length*64->Out (128+64) (128+576) I M->∀j,j<s.ls.length->XU (LF++[bodyX]) I0 j (chunk j I):=λ I hI hout j hj t ht hn=>by
    rw [chunk_at ht,←hMI _ hn]
    exact hout _ λ h=>hn (inX_body.2 (.inr ⟨by omega,by omega⟩))
  obtain ⟨e1,s1,g1,g2⟩:=put_loss (X:=XU (LF++[bodyX]) I0) (I0:=M) (at_:=128) (sz:=576) (l:=l) (q:=128+64) (r:=1) (s:=s) hw hO hA2.poss hlw (by rw [hn64];exact hl) (Nat.le_refl _) oqz (room_le hr oqz) (by rw [hM];exact Out.refl _ _ _) (by rw [hn64];exact hil) hXo
  have hW:writeS 128 576 l s=if (putF (128+64) l s).1≠0 then putF (128+64) l s
      else if (rangeP ((128+64:Nat):Int) (needN l:Nat) (putF (128+64) l s).2).1≠0 then rangeP ((128+64:Nat):Int) (needN l:Nat) (putF (128+64) l s).2
      else pubP (128:Nat) l.length (rangeP ((128+64:Nat):Int) (needN l:Nat) (putF (128+64) l s).2).2:=by
    unfold writeS
    rw [if_neg (by rw [hO];decide),hwd,hM,if_neg (by rw [h0];simp),if_neg (by rw [hn64,hl];decide),hnd,if_neg (by simp only [ne_eq,not_true,false_or];omega),if_neg hne]
  rw [hW,g1]
  simp only []
  rcases g2 with ⟨a1,a2,a3,a4,a5,a6,a7,a8⟩|⟨a1,a2⟩
  . subst a1;rw [if_neg (by simp)]
    have hrg:rangeP ((128+64:Nat):Int) (needN l:Nat) s1=lastS (128+64) (needN l) s1:=by
      unfold rangeP
      rw [if_neg (by rw [a2];decide),if_neg oqz,rdy_ok oqz oqz (by rw [a5];omega),if_neg (by decide),Int.toNat_natCast,Int.toNat_natCast]
    obtain ⟨e2,s2,k1,k2⟩:=last_loss2 (p:=128+64) (m:=needN l) a3 a2 a4 hl1 (by rw [a5];omega) (λ q ln hq hln=>by
      rw [a6 q hq] at hln
      by_cases hU:∀i,InX LF i->i/64≠q
      . exact .inl (hA.one q ln hU hln)
      have:∃i,InX LF i/\ i/64=q:=by
        apply Classical.byContradiction
        intro hn;exact hU λ i hi he=>hn ⟨i,hi,he⟩
      obtain ⟨i,hi,rfl⟩:=this
      exact .inr (hmk i hi ln hln))
    have hrm2:Room 1 s2:=rangeP_room (p:=((128+64:Nat):Int)) (m:=(needN l:Nat)) (by rw [hrg];exact k1) a3 a7;rw [hrg,k1]
    simp only []
    rw [a5] at k2
    rcases k2 with ⟨b1,b2,b3,b4,b5,b6⟩|⟨b1,b2⟩
    . subst b1;rw [if_neg (by simp)]
      have hi2:imgS s2=wrI1 128 M l:=(by rw [b6,a8,hM];rfl)
      obtain ⟨e3,s3,c1,c2⟩:=pub_loss (X:=λ q c=>c=chunk q (wrI1 128 M l)∨c=chunk q (wrI 128 M l)) (p:=128) (v:=l.length) (s:=s2) b3 b2
        (poss_cln b3 b4 λ q hq=> .inl (by rw [hi2])) (λ q ln _ hln=>b4 ln (List.mem_of_getElem? hln)) (by decide) (by rw [b5];omega) hllt hrm2 (.inr (by rw [hi2];rfl))
      refine ⟨e3,s3,c1, ?_⟩;rw [b5] at c2
      rcases c2 with ⟨d1,d2,d3,d4,d5,d6⟩|⟨d1,d2,d3,d4,d5,d6⟩
      . exact ⟨by rw [d5,hlen],.inl ⟨d1,d2,d3,d4,by rw [d6,hi2];rfl⟩⟩
      refine ⟨by rw [d6,hlen],.inr ⟨d1,d2, ?_⟩⟩;have hil3:=imgS_len d3;have hI2l:(wrI 128 M l).length=1024:=(by unfold wrI;rw [spl_length (by rw [le_length];omega),hI1l]);have hoth:∀q,q≠128/64->chunk q (wrI 128 M l)=chunk q (wrI1 128 M l):=λ q hq=>by unfold wrI;exact chunk_spl (by rw [le_length];omega) (by rw [le_length];omega)
      have hq:∀q,q<s.ls.length->chunk q (imgS s3)=chunk q (wrI1 128 M l)∨chunk q (imgS s3)=chunk q (wrI 128 M l):=λ q hq=>poss_img d3 d5 (by rw [d6];exact hq)
      rcases hq (128/64) oqz with h1|h1
      . left
        have e9:imgS s3=wrI1 128 M l:=img_ext (n:=s.ls.length) (by rw [hil3,d6]) oqz λ q hql=>by
          by_cases e:q=128/64
          . rw [e];exact h1
          rcases hq q hql with h2|h2
          . exact h2
          rw [h2,hoth q e]
        refine as_cln2 d3 d4 (by rw [d6];omega) λ i hi=> ?_
        rw [←hMI i hi,e9]
        exact (out_spl (a:=192) (b:=704) oqz (Nat.le_refl _) oqz) i λ h=>hi (inX_body.2 (.inr h))
      right
      exact ⟨d3,d4,img_ext (n:=s.ls.length) (by rw [hil3,d6]) oqz λ q hql=>by
        by_cases e:q=128/64
        . rw [e];exact h1
        rcases hq q hql with h2|h2
        . rw [h2,hoth q e]
        exact h2⟩
    subst b1;rw [if_pos (show (5:Int)≠0 by decide)]
    exact ⟨5,s2,rfl,by rw [b2.2.2.2.2,hlen],.inr ⟨rfl,b2.1,.inl (as_lost b2 (by rw [hlen];exact hI0))⟩⟩
  subst a1;rw [if_pos (show (5:Int)≠0 by decide)]
  exact ⟨5,s1,rfl,by rw [a2.2.2.2.2,hlen],.inr ⟨rfl,a2.1,.inl (as_lost a2 (by rw [hlen];exact hI0))⟩⟩
theorem clear_law {K:List Nat}{s:DevS}(hw:WfD s)(hO:s.off=false)(hc:Cln s)(hlen:s.ls.length=16)(hK:imgS s=K):
    ∃e s2,clearS 128 s=(e,s2)/\ s2.ls.length=16/\ WfD s2/\ Cln s2/\ ((e=0/\ s2.off=false/\ imgS s2=spl K 128 (le 8 0))∨(e=5/\ s2.off=true/\ (imgS s2=K∨imgS s2=spl K 128 (le 8 0)))):=by
  have hil:K.length=1024:=(by rw [←hK,imgS_len hw,hlen])
  obtain ⟨e,s2,g1,g2⟩:=pub_loss (X:=λ q c=>c=chunk q K∨c=chunk q (spl K 128 (le 8 0))) (p:=128) (v:=0) (s:=s) hw hO
    (poss_cln hw hc λ q hq=> .inl (by rw [hK])) (λ q ln _ hln=>hc ln (List.mem_of_getElem? hln)) (by decide) (by rw [hlen];decide) (by decide) (room_cln hc (by decide)) (.inr (by rw [hK]))
  refine ⟨e,s2,by unfold clearS;rw [if_neg (by rw [hO];decide)];exact g1, ?_⟩
  rcases g2 with ⟨d1,d2,d3,d4,d5,d6⟩|⟨d1,d2,d3,d4,d5,d6⟩
  . exact ⟨by rw [d5,hlen],d3,d4,.inl ⟨d1,d2,by rw [d6,hK]⟩⟩
  refine ⟨by rw [d6,hlen],d3,d4,.inr ⟨d1,d2, ?_⟩⟩;have hil3:=imgS_len d3;have hJl:(spl K 128 (le 8 0)).length=1024:=(by rw [spl_length (by rw [le_length];omega),hil]);have hoth:∀q,q≠128/64->chunk q (spl K 128 (le 8 0))=chunk q K:=λ q hq=>chunk_spl (by rw [le_length];omega) (by rw [le_length];omega)
  have hq:∀q,q<s.ls.length->chunk q (imgS s2)=chunk q K∨chunk q (imgS s2)=chunk q (spl K 128 (le 8 0)):=λ q hq=>poss_img d3 d5 (by rw [d6];exact hq)
  rcases hq (128/64) oqz with h1|h1
  . exact .inl (img_ext (n:=s.ls.length) (by rw [hil3,d6]) oqz λ q hql=>by
      by_cases e:q=128/64
      . rw [e];exact h1
      rcases hq q hql with h2|h2
      . exact h2
      rw [h2,hoth q e])
  exact .inr (img_ext (n:=s.ls.length) (by rw [hil3,d6]) oqz λ q hql=>by
    by_cases e:q=128/64
    . rw [e];exact h1
    rcases hq q hql with h2|h2
    . rw [h2,hoth q e]
    exact h2)
theorem stoI_len:∀{R:List (Nat×List Nat)} {I:List Nat} {n:Nat},I.length=n->(∀r∈R,r.1+r.2.length<=n)->(stoI R I).length=n
  |[],_,_,h,_=>h
  |r::R,I,n,h,hR=>stoI_len (R:=R) (by rw [spl_length (by have:=hR r (by simp);omega),h]) λ x hx=>hR x (List.mem_cons_of_mem _ hx)
theorem stoI_out:∀{R:List (Nat×List Nat)} {I:List Nat} {n i:Nat},I.length=n->(∀r∈R,r.1+r.2.length<=n)->¬InX R i->(stoI R I)[i]? =I[i]?
  |[],_,_,_,_,_,_=>rfl
  |r::R,I,n,i,h,hR,hi=>by
    have hr:=hR r (by simp);have h1:=stoI_out (R:=R) (I:=spl I r.1 r.2) (n:=n) (i:=i) (by rw [spl_length oqz,h]) (λ x hx=>hR x (List.mem_cons_of_mem _ hx)) λ ⟨x,hx,h2⟩=>hi ⟨x,List.mem_cons_of_mem _ hx,h2⟩
    show (stoI R (spl I r.1 r.2))[i]? =_
    rw [h1,spl_at oqz,if_neg λ hc=>hi ⟨r,by simp,hc⟩]
theorem stoI_in {B:Nat->Nat}:∀{R:List (Nat×List Nat)} {I:List Nat} {n i:Nat},I.length=n->(∀r∈R,r.1+r.2.length<=n/\∀j,j<r.2.length->r.2[j]? =some (B (r.1+j)))->InX R i->(stoI R I)[i]? =some (B i)
  |[],_,_,_,_,_,h=>by obtain ⟨x,hx,_⟩:=h;cases hx
  |r::R,I,n,i,h,hR,hi=>by
    obtain ⟨hr1,hr2⟩:=hR r (by simp)
    show (stoI R (spl I r.1 r.2))[i]? =_
    have hlen:(spl I r.1 r.2).length=n:=(by rw [spl_length oqz,h])
    by_cases hin:InX R i
    . exact stoI_in (R:=R) hlen (λ x hx=>hR x (List.mem_cons_of_mem _ hx)) hin
    rw [stoI_out hlen (λ x hx=>(hR x (List.mem_cons_of_mem _ hx)).1) hin,spl_at oqz]
    obtain ⟨x,hx,h1,h2⟩:=hi
    rcases List.mem_cons.1 hx with rfl|hx
    . rw [if_pos ⟨h1,h2⟩]
      have:=hr2 (i-x.1) oqz;rw [this];congr 2;omega
    exact absurd ⟨x,hx,h1,h2⟩ hin
structure RnOk (R:List (Nat×List Nat)):Prop where
  gap:R.Pairwise λ r s=>r.1+r.2.length<s.1
  ok:∀r∈R,1<=r.2.length/\ (∀b∈r.2,b<256)/\ ((64<=r.1/\ r.1+r.2.length<=128)∨(704<=r.1/\ r.1+r.2.length<=1024))
theorem RnOk.top {R:List (Nat×List Nat)}(h:RnOk R):∀r∈R,r.1+r.2.length<=1024:=λ r hr=>by
  rcases (h.ok r hr).2.2 with h|h<;>omega
theorem RnOk.inx {R:List (Nat×List Nat)}(h:RnOk R){i:Nat}(hi:InX R i):(64<=i/\ i<128)∨(704<=i/\ i<1024):=by
  obtain ⟨r,hr,h1,h2⟩:=hi
  rcases (h.ok r hr).2.2 with h|h<;>omega
theorem RnOk.may {R:List (Nat×List Nat)}(h:RnOk R):(extX R).all (mayX 1024 128 576)=true:=List.all_eq_true.2 λ x hx=>by
  obtain ⟨r,hr,rfl⟩:=List.mem_map.1 hx;obtain ⟨h1,_,h3⟩:=h.ok r hr;refine decide_eq_true ⟨by show (1:Int)<=(r.2.length:Int);omega,by show (64:Int)<=(r.1:Int);omega,by show (r.1:Int)+(r.2.length:Int)<=_;omega, ?_⟩
  show (r.1:Int)+(r.2.length:Int)<=_∨_<=(r.1:Int)
  omega
theorem inX_oldsR {M:List Nat}{R:List (Nat×List Nat)}(h:RnOk R)(hM:M.length=1024){i:Nat}:InX (oldsL M (extX R)) i↔InX R i:=by
  have hol:∀r∈R,((M.drop r.1).take r.2.length).length=r.2.length:=λ r hr=>by
    have:=h.top r hr;rw [List.length_take,List.length_drop];omega
  constructor
  . rintro ⟨x,hx,h1,h2⟩;obtain ⟨y,hy,rfl⟩:=olds_mem hx;obtain ⟨r,hr,rfl⟩:=List.mem_map.1 hy
    simp only [Int.toNat_natCast] at h1 h2
    rw [hol r hr] at h2
    exact ⟨r,hr,h1,h2⟩
  rintro ⟨r,hr,h1,h2⟩;refine ⟨(r.1,(M.drop r.1).take r.2.length),List.mem_map.2 ⟨((r.1:Int),(r.2.length:Int)),List.mem_map.2 ⟨r,hr,rfl⟩,by simp only [Int.toNat_natCast]⟩,h1, ?_⟩
  show i<r.1+((M.drop r.1).take r.2.length).length
  rw [hol r hr];exact h2
theorem img_byM {s:DevS}(hw:WfD s)(hlen:s.ls.length=16):ByM (imgS s):=⟨by rw [imgS_len hw,hlen],λ x hx=>img_lt x hx⟩
theorem wr_logM {M:List Nat}{l:List (Int×Int)}(hM:ByM M)(hl:l.all (mayX 1024 128 576)=true)(hN:needN l<=512):LogM M 576 l (wrI 128 M l):=by
  have hml:=hM.len;have hrl:=recsB_len hml hl;have h1l:(wrI1 128 M l).length=1024:=(by unfold wrI1;rw [spl_length oqz,hml]);have h2l:(wrI 128 M l).length=1024:=(by unfold wrI;rw [spl_length (by rw [le_length];omega),h1l]);have hll:l.length<18446744073709551616:=Nat.lt_of_le_of_lt (needN_ge l) oqz;refine ⟨?_, ?_,h2l, ?_⟩
  . have:=spl_mid (l:=wrI1 128 M l) (b:=le 8 l.length) (p:=128) (by rw [le_length];omega);rw [le_length] at this
    unfold wrI;rw [this,nm_le]
    exact Nat.mod_eq_of_lt (by have : (256 : Nat) ^ 8 = 18446744073709551616 := by decide
                               omega)
  . unfold wrI
    rw [spl_drop_ge (by rw [le_length];omega) (by rw [le_length];omega)]
    have:=spl_mid (l:=M) (b:=recsB M l) (p:=192) oqz;rw [hrl] at this;exact this
  have h1l2:(spl M (128+64) (recsB M l)).length=1024:=h1l
  unfold wrI wrI1
  exact (out_spl (by rw [le_length];omega) (Nat.le_refl _) (by rw [le_length];omega)).trans (out_spl oqz oqz oqz)
structure ComK where
  F:List (Nat×List Nat)
  L:List (Nat×List Nat)
  I:List Nat
def ComK.M (c:ComK):List Nat:=stoI c.F c.I
def ComK.J (c:ComK):List Nat:=wrI 128 c.M (extX c.L)
def ComK.K (c:ComK):List Nat:=stoI c.L c.J
def ComK.E (c:ComK):List Nat:=if c.L=[] then c.M else spl c.K 128 (le 8 0)
structure ComOk (c:ComK):Prop where
  f:RnOk c.F
  l:RnOk c.L
  i:ByM c.I
  dis:∀i,InX c.F i->¬InX c.L i
  need:needN (extX c.L)<=512
  hd:(c.I.drop 128).take 8=List.replicate 8 0
theorem ComOk.mlen {c:ComK}(h:ComOk c):c.M.length=1024:=stoI_len h.i.len h.f.top
theorem ComOk.mhd {c:ComK}(h:ComOk c):nm ((c.M.drop 128).take 8)=0:=by
  have e:(c.M.drop 128).take 8=(c.I.drop 128).take 8:=by
    apply List.ext_getElem?
    intro i;rw [List.getElem?_take,List.getElem?_take]
    split
    . rw [List.getElem?_drop,List.getElem?_drop]
      exact stoI_out h.i.len h.f.top λ hi=>by have:=h.f.inx hi;omega
    rfl
  rw [e,h.hd];decide
def Old0 (c:ComK)(s:DevS):Prop:=AS (c.F++[bodyX]) c.I s/\ s.ls.length=16
def Mid0 (c:ComK)(s:DevS):Prop:=c.L≠[]/\ ByM c.M/\ AS (oldsL c.M (extX c.L)) c.J s/\ s.ls.length=16
def New0 (c:ComK)(s:DevS):Prop:=WfD s/\ Cln s/\ s.ls.length=16/\ imgS s=c.E
theorem old_of {c:ComK}{s:DevS}(h:AS c.F c.I s)(hl:s.ls.length=16):Old0 c s:=⟨as_mono h λ i hi=>inX_body.2 (.inl hi),hl⟩
theorem com_law {c:ComK}{f:TF}{s:DevS}(hc:ComOk c)(hF:runsF 1024 true f=c.F)(hL:runsF 1024 false f=c.L)(hw:WfD s)(hO:s.off=false)(hcl:Cln s)(hlen:s.ls.length=16)(hi:imgS s=c.I)(hsf:sumL c.F<=4194304)(hsl:sumL c.L<=4194304):
    ∃e s2,comS 128 576 1024 f s=((e,true),s2)/\ ((e=0/\ s2.off=false/\ New0 c s2)∨(e=5/\ s2.off=true/\ (Old0 c s2∨Mid0 c s2∨New0 c s2))):=by
  have hn64:s.ls.length*64=1024:=(by rw [hlen]);have hA:AS c.F c.I s:=as_cln hw hcl hi;obtain ⟨e1,s1,g1,g2,g3,g4⟩:=writeT_law (k:=needN (extX c.L)+1) (R:=c.F) hA hO hc.f.gap (λ r hr=>⟨(hc.f.ok r hr).1,by rw [hn64];exact hc.f.top r hr,(hc.f.ok r hr).2.1,λ i h1 h2=>⟨r,hr,h1,h2⟩⟩) (room_cln hcl (by have:=hc.need;omega));rw [←hF] at g1
  rcases g4 with ⟨rfl,a2,a3,a4,a5⟩|⟨rfl,a2⟩
  . have hM:imgS s1=c.M:=(by rw [a4,hi];rfl)
    by_cases hl0:c.L=[]
    . by_cases hf0:c.F=[]
      . refine ⟨0,s1,com_00 g1 (hL.trans hl0) (hF.trans hf0),.inl ⟨rfl,a2,g3.wf,λ l hl=> ?_,g2.trans hlen, ?_⟩⟩
        . obtain ⟨q,hq,rfl⟩:=List.mem_iff_getElem.1 hl;exact g3.one q _ (λ i hi9=>by rw [hf0] at hi9;obtain ⟨x,hx,_⟩:=hi9;cases hx) (List.getElem?_eq_getElem hq)
        unfold ComK.E;rw [if_pos hl0];exact hM
      obtain ⟨e2,s2,k1,k2,k3⟩:=fe_law g3 a2 a5;refine ⟨e2,s2,com_0f g1 (hL.trans hl0) (by rw [hF];exact hf0) k1, ?_⟩
      rcases k3 with ⟨b1,b2,b3,b4,b5⟩|⟨b1,b2,b3⟩
      . exact .inl ⟨b1,b2,b3,b4,k2.trans (g2.trans hlen),by unfold ComK.E;rw [if_pos hl0,b5];exact hM⟩
      exact .inr ⟨b1,b2,.inl (old_of b3 (k2.trans (g2.trans hlen)))⟩
    have hne:extX c.L≠[]:=λ e=>hl0 (List.eq_nil_of_length_eq_zero (by rw [←ext_len,e];rfl))
    have hbM:ByM c.M:=hM▸img_byM g3.wf (g2.trans hlen)
    have hJ:LogM c.M 576 (extX c.L) c.J:=wr_logM hbM hc.l.may hc.need;obtain ⟨e2,s2,k1,k2,k3⟩:=write_law g3 a2 (g2.trans hlen) hM a5 (λ i h=>hc.f.inx h) hc.mhd hc.l.may hne hc.need a3;rw [←hL] at k1
    have hLne:runsF 1024 false f≠[]:=(by rw [hL];exact hl0)
    rcases k3 with ⟨rfl,b2,b3,b4,b5⟩|⟨rfl,b2,b3⟩
    . have hA2:AS (oldsL c.M (extX c.L)) c.J s2:=as_cln b3 b4 b5;have hn2:s2.ls.length*64=1024:=(by rw [k2]);obtain ⟨e3,s3,m1,m2,m3,m4⟩:=writeT_law (k:=1) (R:=c.L) hA2 b2 hc.l.gap (λ r hr=>⟨(hc.l.ok r hr).1,by rw [hn2];exact hc.l.top r hr,(hc.l.ok r hr).2.1,λ i h1 h2=>(inX_oldsR hc.l hbM.len).2 ⟨r,hr,h1,h2⟩⟩) (room_cln b4 oqz);rw [←hL] at m1
      rcases m4 with ⟨rfl,c2,c3,c4,c5⟩|⟨rfl,c2⟩
      . have hK:imgS s3=c.K:=(by rw [c4,b5];rfl);obtain ⟨e4,s4,n1,n2,n3⟩:=fe_law m3 c2 λ i hi9=>c5 i ((inX_oldsR hc.l hbM.len).1 hi9)
        rcases n3 with ⟨rfl,d2,d3,d4,d5⟩|⟨rfl,d2,d3⟩
        . obtain ⟨e5,s5,p1,p2,p3,p4,p5⟩:=clear_law d3 d2 d4 (n2.trans (m2.trans k2)) (d5.trans hK);refine ⟨e5,s5,com_cl g1 hLne k1 m1 n1 p1, ?_⟩
          rcases p5 with ⟨q1,q2,q3⟩|⟨q1,q2,q3⟩
          . exact .inl ⟨q1,q2,p3,p4,p2,by unfold ComK.E;rw [if_neg hl0];exact q3⟩
          refine .inr ⟨q1,q2, ?_⟩
          rcases q3 with q3|q3
          . refine .inr (.inl ⟨hl0,hbM,as_cln2 p3 p4 (by rw [p2];exact hJ.2.2.1) λ i hi9=> ?_,p2⟩);rw [q3]
            exact stoI_out hJ.2.2.1 hc.l.top λ h9=>hi9 ((inX_oldsR hc.l hbM.len).2 h9)
          exact .inr (.inr ⟨p3,p4,p2,by unfold ComK.E;rw [if_neg hl0];exact q3⟩)
        exact ⟨5,s4,com_fe g1 hLne k1 m1 n1 (by decide),.inr ⟨rfl,d2,.inr (.inl ⟨hl0,hbM,d3,n2.trans (m2.trans k2)⟩)⟩⟩
      exact ⟨5,s3,com_w2 g1 hLne k1 m1 (by decide),.inr ⟨rfl,c2,.inr (.inl ⟨hl0,hbM,m3,m2.trans k2⟩)⟩⟩
    have h5:=com_lw (at_:=128) (sz:=576) g1 hLne k1 (show (5:Int)≠0 by decide);refine ⟨5,s2,by rw [h5];rfl,.inr ⟨rfl,b2, ?_⟩⟩
    rcases b3 with b3|⟨b3,b4,b5⟩
    . exact .inl ⟨b3,k2⟩
    exact .inr (.inl ⟨hl0,hbM,as_cln b3 b4 b5,k2⟩)
  exact ⟨5,s1,com_w1 g1 (by decide),.inr ⟨rfl,a2,.inl (old_of g3 (g2.trans hlen))⟩⟩
def Rol0 (c:ComK)(s:DevS):Prop:=c.L≠[]/\ ByM c.M/\ WfD s/\ Cln s/\ s.ls.length=16/\ imgS s=spl c.J 128 (le 8 0)
def Set9 (c:ComK)(s:DevS):Prop:=Old0 c s∨New0 c s∨Rol0 c s
def Rec9 (c:ComK)(s:DevS):Prop:=Mid0 c s∨Set9 c s
theorem hd_spl {K:List Nat}(h:K.length=1024):nm (((spl K 128 (le 8 0)).drop 128).take 8)=0:=by
  have:=spl_mid (l:=K) (b:=le 8 0) (p:=128) (by rw [le_length];omega);rw [le_length] at this
  rw [this];decide
theorem ComOk.jlen {c:ComK}(h:ComOk c)(hM:ByM c.M):LogM c.M 576 (extX c.L) c.J:=wr_logM hM h.l.may h.need
theorem new_hd {c:ComK}{s:DevS}(h:ComOk c)(hn:New0 c s):nm (((imgS s).drop 128).take 8)=0:=by
  obtain ⟨h1,h2,h3,h4⟩:=hn;rw [h4]
  unfold ComK.E
  split
  . exact h.mhd
  have hl:(spl c.K 128 (le 8 0)).length=c.K.length∨True:= .inr trivial;have hKl:c.K.length=1024:=stoI_len (by unfold ComK.J wrI wrI1;rw [spl_length,spl_length];exact h.mlen;(rw [recsB_len h.mlen h.l.may,h.mlen];have:=h.need;omega);(rw [spl_length,le_length,h.mlen];decide;(rw [recsB_len h.mlen h.l.may,h.mlen];have:=h.need;omega))) h.l.top;exact hd_spl hKl
theorem set_none {c:ComK}{s:DevS}(h:ComOk c)(hs:Set9 c s)(hO:s.off=false):s.ls.length=16/\ recordsS 128 576 s=([],0):=by
  have key:s.ls.length=16->nm (((imgS s).drop 128).take 8)=0->s.ls.length=16/\ recordsS 128 576 s=([],0):=λ hl h0=>⟨hl,records_none hO (lw12 hl) h0⟩
  rcases hs with ⟨hA,hl⟩|hn|⟨_,hM,_,_,hl,hi⟩
  . refine key hl ?_;rw [hA.sub (λ i h1 h2 hi=>by rcases inX_body.1 hi with h9|h9;(have:=h.f.inx h9;omega);omega),h.hd];decide
  . exact key hn.2.2.1 (new_hd h hn)
  exact key hl (by rw [hi];exact hd_spl (h.jlen hM).2.2.1)
theorem roll_law {c:ComK}{s:DevS}{k:Nat}(h:ComOk c)(hs:Rec9 c s)(hO:s.off=false)(hg:Gd 16 (577+k) s):
    ∃q e s2,rollS 128 576 s=((q,e),s2)/\ Gd 16 k s2/\ s2.arms.length<=s.arms.length/\ (New0 c s->New0 c s2)/\ ((e=0/\ s2.off=false/\ Set9 c s2)∨(e=5/\ s2.off=true/\ Rec9 c s2/\ s2.arms.length<s.arms.length)):=by
  have hset:Set9 c s->∃q e s2,rollS 128 576 s=((q,e),s2)/\ Gd 16 k s2/\ s2.arms.length<=s.arms.length/\ (New0 c s->New0 c s2)/\ ((e=0/\ s2.off=false/\ Set9 c s2)∨(e=5/\ s2.off=true/\ Rec9 c s2/\ s2.arms.length<s.arms.length)):=λ hs=>
    ⟨0,0,s,roll_no (set_none h hs hO).2 (.inr rfl),hg.le oqz,Nat.le_refl _,id,.inl ⟨rfl,hO,hs⟩⟩
  by_cases hN:New0 c s
  . exact hset (.inr (.inl hN))
  rcases hs with ⟨hne,hM,hA,hl⟩|hs
  . have hnx:extX c.L≠[]:=λ e=>hne (List.eq_nil_of_length_eq_zero (by rw [←ext_len,e];rfl))
    have hph:=rollS_phi 128 576 s;obtain ⟨q,e,s2,g1,g2,g3⟩:=as_rollM hM (sz:=576) (by decide) (by decide) (by decide) h.l.may h.need hnx (h.jlen hM) hA hO hl (room_le hg.room (by have:=h.need;omega));have hgd:=gd_roll (n:=16) (k:=k) (at_:=128) (sz:=576) (hg.le oqz) (lw12 hl);rw [g1] at hph hgd
    have harm:s2.arms.length<=s.arms.length/\ (s2.off=true->s2.arms.length<s.arms.length):=by
      unfold phi at hph
      rw [hO] at hph
      simp only [Bool.false_eq_true,if_false] at hph
      constructor
      . split at hph<;>omega
      intro h9;rw [if_pos h9] at hph;omega
    refine ⟨q,e,s2,g1,hgd,harm.1,λ h9=>absurd h9 hN, ?_⟩
    rcases g3 with ⟨a1,a2,a3,a4,a5,a6⟩|⟨a1,a2,a3⟩
    . exact .inl ⟨a1,a3,.inr (.inr ⟨hne,hM,a4,a5,g2,a6⟩)⟩
    refine .inr ⟨a1,a2, ?_,harm.2 a2⟩
    rcases a3 with ⟨a4,a5⟩|⟨a4,a5,a6⟩
    . exact .inl ⟨hne,hM,a4,g2⟩
    exact .inr (.inr (.inr ⟨hne,hM,a4,a5,g2,a6⟩))
  exact hset hs
theorem as_eqv {L:List (Nat×List Nat)}{I:List Nat}{s s2:DevS}(h:AS L I s)(hw:WfD s2)(e:s2.ls=s.ls):AS L I s2:=⟨hw,by rw [e];exact h.len,λ q l hl=>h.poss q l (by rw [←e];exact hl),λ q l hq hl=>h.one q l hq (by rw [←e];exact hl)⟩
theorem new_eqv {c:ComK}{s s2:DevS}(h:New0 c s)(hw:WfD s2)(e:s2.ls=s.ls):New0 c s2:=⟨hw,λ l hl=>h.2.1 l (by rw [←e];exact hl),by rw [e];exact h.2.2.1,by unfold imgS;rw [e];exact h.2.2.2⟩
theorem set_eqv {c:ComK}{s s2:DevS}(h:Set9 c s)(hw:WfD s2)(e:s2.ls=s.ls):Set9 c s2:=by
  rcases h with ⟨h1,h2⟩|h|⟨h1,h2,h3,h4,h5,h6⟩
  . exact .inl ⟨as_eqv h1 hw e,by rw [e];exact h2⟩
  . exact .inr (.inl (new_eqv h hw e))
  exact .inr (.inr ⟨h1,h2,hw,λ l hl=>h4 l (by rw [←e];exact hl),by rw [e];exact h5,by unfold imgS;rw [e];exact h6⟩)
theorem rec_eqv {c:ComK}{s s2:DevS}(h:Rec9 c s)(hw:WfD s2)(e:s2.ls=s.ls):Rec9 c s2:=by
  rcases h with ⟨h1,h2,h3,h4⟩|h
  . exact .inl ⟨h1,h2,as_eqv h3 hw e,by rw [e];exact h4⟩
  exact .inr (set_eqv h hw e)
theorem as_goes {L:List (Nat×List Nat)}{I:List Nat}{s:DevS}{kp:List Int}(h:AS L I s):AS L I (goesS kp s):=⟨goesS_wf h.wf,by rw [goes_len];exact h.len,goes_poss h.wf h.poss,λ q l _ hl=>goes_cln h.wf l (List.mem_of_getElem? hl)⟩
theorem new_goes {c:ComK}{s:DevS}{kp:List Int}(h:New0 c s):New0 c (goesS kp s):=⟨goesS_wf h.1,goes_cln h.1,by rw [goes_len];exact h.2.2.1,by rw [goes_single h.2.1];exact h.2.2.2⟩
theorem set_goes {c:ComK}{s:DevS}{kp:List Int}(h:Set9 c s):Set9 c (goesS kp s):=by
  rcases h with ⟨h1,h2⟩|h|⟨h1,h2,h3,h4,h5,h6⟩
  . exact .inl ⟨as_goes h1,by rw [goes_len];exact h2⟩
  . exact .inr (.inl (new_goes h))
  exact .inr (.inr ⟨h1,h2,goesS_wf h3,goes_cln h3,by rw [goes_len];exact h5,by rw [goes_single h4];exact h6⟩)
theorem rec_goes {c:ComK}{s:DevS}{kp:List Int}(h:Rec9 c s):Rec9 c (goesS kp s):=by
  rcases h with ⟨h1,h2,h3,h4⟩|h
  . exact .inl ⟨h1,h2,as_goes h3,by rw [goes_len];exact h4⟩
  exact .inr (set_goes h)
theorem arm_law {af:Int}{k:List Int}{s:DevS}(hw:WfD s)(hO:s.off=false)(ha:s.arms.length<=60)(h1:1<=af/\ af<=9223372036854775807)(hk:∀x∈k,0<=x/\ x<1000)(hkl:k.length<=17592186044416):armS [(af,k)] s=(0,{ s with arms:=s.arms++[(af,k)] })/\ WfD { s with arms:=s.arms++[(af,k)] }:=by
  have hlow:lowB k=false:=(by unfold lowB;rw [List.any_eq_false];intro x hx;have:=hk x hx;simp;omega);have hbad:([(af,k)]:List (Int×List Int)).any badA=false:=(by simp [badA,hlow];omega);refine ⟨?_,arm_wf hw (by simp;omega) hbad λ x hx=>by rw [List.mem_singleton.1 hx];exact ⟨h1.2,hkl,λ y hy=>by have:=hk y hy;omega⟩⟩
  unfold armS
  rw [if_neg (by rw [hO];decide),if_neg (by rw [hbad];decide),if_neg (by simp;omega)]
theorem cr_law {k:List Int}{s:DevS}(hO:s.off=false)(hk:∀x∈k,0<=x/\ x<1000):crS k s=(0,goesS k s):=by
  have hlow:lowB k=false:=(by unfold lowB;rw [List.any_eq_false];intro x hx;have:=hk x hx;simp;omega)
  unfold crS
  rw [if_neg (by rw [hO];decide),if_neg (by rw [hlow];decide)]
def comK (f:TF)(I:List Nat):ComK:=⟨runsF 1024 true f,runsF 1024 false f,I⟩
theorem laysK_in (l:List Pu12):∀ (i a:Nat),laysK l i a≠none->(64<=a/\ a<128)∨(704<=a/\ a<1024)
  |0,a,h=>by rw [laysK_zero] at h;exact absurd rfl h
  |i+1,a,h=>by
    cases hx:l[i]? with
    |none=>
      have hle:l.length<=i:=List.getElem?_eq_none_iff.1 hx;have e:laysK l (i+1)=laysK l i:=(laysK_all oqz).trans (laysK_all hle).symm;rw [e] at h;exact laysK_in l i a h
    |some x=>
      rw [laysK_succ hx] at h
      unfold lay12 layF at h
      split at h
      . rename_i hin
        rw [List.length_take] at hin
        have:=pl_in x.q x.b.length
        omega
      exact laysK_in l i a h
theorem inX_runs {f:TF}{k:Bool}(hout:∀a,1024<=a->f a=none){i:Nat}:InX (runsF 1024 k f) i↔kdO f i=some k:=by
  have hQ:=runQ_F 1024 k f
  constructor
  . rintro ⟨r,hr,h1,h2⟩;obtain ⟨g,_⟩:=hQ.kind r hr (i-r.1) oqz;rw [show r.1+(i-r.1)=i by omega] at g
    exact isK_iff.1 g
  intro h
  have hi:i<1024:=by
    rcases Nat.lt_or_ge i 1024 with h9|h9
    . exact h9
    rw [kdO_none.1 (hout i h9)] at h;cases h
  obtain ⟨r,hr,h1,h2⟩:=hQ.cov i (adr_mem.2 ⟨hi,isK_iff.2 h⟩);exact ⟨r,hr,h1,h2⟩
theorem rnOk_runs {f:TF}{k:Bool}(hout:∀a,1024<=a->f a=none)(hby:∀a c,f a=some c->c.1<256)(hin:∀a,f a≠none->(64<=a/\ a<128)∨(704<=a/\ a<1024)):RnOk (runsF 1024 k f):=by
  have hQ:=runQ_F 1024 k f;have hP:=runP_Fb (n:=1024) (k:=k) hby;refine ⟨hQ.gap,λ r hr=> ?_⟩;obtain ⟨p1,p2,p3⟩:=hP.ok r hr;refine ⟨p1,p3, ?_⟩
  have hne:∀j,j<r.2.length->(64<=r.1+j/\ r.1+j<128)∨(704<=r.1+j/\ r.1+j<1024):=λ j hj=>by
    refine hin _ λ h9=> ?_
    have:=(isK_iff.1 (hQ.kind r hr j hj).1);rw [kdO_none.1 h9] at this;cases this
  have h0:=hne 0 oqz;have h1:=hne (r.2.length-1) oqz
  by_cases hc:r.1<128/\ 128<=r.1+r.2.length-1
  . have:=hne (128-r.1) oqz;omega
  omega
attribute [local irreducible] runsF adrF runsL sumL
theorem comK_ok {l:List Pu12}{i:Nat}{I:List Nat}(hi:i<=8)(hout:∀a,1024<=a->laysK l i a=none)(hby:∀a c,laysK l i a=some c->c.1<256)(hI:ByM I)(hh:(I.drop 128).take 8=List.replicate 8 0):ComOk (comK (laysK l i) I):=
  ⟨rnOk_runs hout hby (laysK_in l i),rnOk_runs hout hby (laysK_in l i),hI,(λ a h1 h2=>by
    have g1:=(inX_runs (k:=true) hout).1 h1;have g2:=(inX_runs (k:=false) hout).1 h2
    rw [g1] at g2;cases g2),laysK_need hi hout hby,hh⟩
theorem com_sum {f:TF}{I:List Nat}(hby:∀a c,f a=some c->c.1<256):sumL (comK f I).F<=4194304/\ sumL (comK f I).L<=4194304:=by
  have h1:=(runP_Fb (n:=1024) (k:=true) hby).sum;have h2:=(runP_Fb (n:=1024) (k:=false) hby).sum;have h3:=adr_len 1024 true f;have h4:=adr_len 1024 false f
  show sumL (runsF 1024 true f)<=_/\ sumL (runsF 1024 false f)<=_
  omega
theorem fin_law {f:TF}{I:List Nat}{s:DevS}(hc:ComOk (comK f I))(hout:∀a,1024<=a->f a=none)(hin:∀a,f a≠none->(64<=a/\ a<128)∨(704<=a/\ a<1024))(hs:Set9 (comK f I) s):
    ∃nw:Bool,(New0 (comK f I) s->nw=true)/\∀i,i<1024→
      (kdO f i=none->(i<128∨704<=i)->(imgS s)[i]? =I[i]?)/\ (kdO f i=some false->(imgS s)[i]? =if nw=true then some (byF f i) else I[i]?)/\ (nw=true->kdO f i≠none->(imgS s)[i]? =some (byF f i)):=by
  have hIl:=hc.i.len;have hMl:=hc.mlen
  have hU:∀i,kdO f i≠none->(i<128∨704<=i):=λ i h=>by
    have:=hin i λ h9=>h (kdO_none.1 h9)
    omega
  have hMo:∀i,kdO f i≠some true->(comK f I).M[i]? =I[i]? :=λ i h=>stoI_out hIl hc.f.top λ h9=>h ((inX_runs hout).1 h9)
  have hMi:∀i,kdO f i=some true->(comK f I).M[i]? =some (byF f i):=λ i h=>stoI_in hIl (λ r hr=>⟨hc.f.top r hr,λ j hj=>((runQ_F 1024 true f).kind r hr j hj).2⟩) ((inX_runs hout).2 h)
  by_cases hN:New0 (comK f I) s
  . refine ⟨true,λ _=>rfl,λ i hi=> ?_⟩;obtain ⟨w1,w2,w3,w4⟩:=id hN
    have hE:(i<128∨704<=i)->(imgS s)[i]? =if kdO f i=some false then some (byF f i) else (comK f I).M[i]? :=λ hlog=>by
      rw [w4]
      unfold ComK.E
      split
      . rename_i hl0
        rw [if_neg λ h=>by
          have h9:=(inX_runs (k:=false) hout).2 h;have e:runsF 1024 false f=[]:=hl0;rw [e] at h9
          obtain ⟨x,hx,_⟩:=h9;cases hx]
      have hrl:=recsB_len hMl hc.l.may;have hnd:=hc.need
      have hJl:(comK f I).J.length=1024:=by
        unfold ComK.J wrI wrI1
        have h1:(spl (comK f I).M (128+64) (recsB (comK f I).M (extX (comK f I).L))).length=1024:=(by rw [spl_length oqz,hMl]);rw [spl_length (by rw [le_length];omega),h1]
      have hKl:(comK f I).K.length=1024:=stoI_len hJl hc.l.top;rw [spl_at (by rw [le_length];omega),le_length,if_neg oqz]
      split
      . rename_i h
        exact stoI_in hJl (λ r hr=>⟨hc.l.top r hr,λ j hj=>((runQ_F 1024 false f).kind r hr j hj).2⟩) ((inX_runs hout).2 h)
      rename_i h
      rw [show (comK f I).K=stoI (comK f I).L (comK f I).J from rfl,stoI_out hJl hc.l.top λ h9=>h ((inX_runs hout).1 h9)]
      unfold ComK.J wrI wrI1
      have h1:(spl (comK f I).M (128+64) (recsB (comK f I).M (extX (comK f I).L))).length=1024:=(by rw [spl_length oqz,hMl]);rw [spl_at (by rw [le_length];omega),le_length,if_neg oqz,spl_at oqz,if_neg oqz]
    refine ⟨λ h hlog=> ?_,λ h=> ?_,λ _ h=> ?_⟩
    . rw [hE hlog,if_neg (by rw [h];simp),hMo i (by rw [h];simp)]
    . rw [hE (hU i (by rw [h];simp)),if_pos h,if_pos rfl]
    rw [hE (hU i h)]
    split
    . rfl
    rename_i h9
    refine hMi i ?_
    cases hk:kdO f i with
    |none=>exact absurd hk h
    |some b=>cases b with
      |true=>rfl
      |false=>exact absurd hk h9
  refine ⟨false,λ h=>absurd h hN,λ i hi=> ?_⟩
  have hold:(i<128∨704<=i)->kdO f i≠some true->(imgS s)[i]? =I[i]? :=λ hlog hk=>by
    rcases hs with ⟨h1,h2⟩|h|⟨h1,h2,h3,h4,h5,h6⟩
    . exact h1.img λ h9=>by
        rcases inX_body.1 h9 with h9|h9
        . exact hk ((inX_runs hout).1 h9)
        omega
    . exact absurd h hN
    have hJ:=hc.jlen h2;rw [h6,spl_at (by rw [le_length];have:=hJ.2.2.1;omega),le_length,if_neg oqz,hJ.2.2.2 i oqz,hMo i hk]
  refine ⟨λ h hlog=>hold hlog (by rw [h];simp),λ h=> ?_,λ h=>by cases h⟩;rw [if_neg (by decide)]
  exact hold (hU i (by rw [h];simp)) (by rw [h];simp)
end Go.Vl

namespace Go.Vl
open Go Go.Proofs Go.Proofs.Tryz
theorem bys_at9 {xs:List Nat}{i x:Nat}(h:xs[i]? =some x):(bys xs)[i]? =some (.int .u8 (x:Nat)):=by unfold bys;rw [List.getElem?_map,h];rfl
theorem zbk:zeroE Tryz.prog 76=some (.agg (bkc tf0).toArray):=by kernel_rfl
theorem cbk:(Value.agg (bkc tf0).toArray).cells=(bkc tf0).toArray:=by kernel_rfl
attribute [local irreducible] crk crL crc Sl pt ro Dev imgS recS readS recsF rdW rdO rkT Parts rvl recordsS runsL adrF kcl xcl kys runA runsF layF linR flLs stoL writeT writeS comS clearS rollS extX ovF kpR TxA
theorem keeps12_c {A:SP}{a:Option Addr}{m c:Nat}{kp:List Int}(hr:Rs A a (ints kp):=by exact rbqz)(hm:kp.length=m:=by first|assumption|rfl)(hml:m<=17592186044416:=by omega):
    Fn Tryz.prog 31 #[.slice a m c] A (λ v B=>∃a2 c2,v= .slice a2 m c2/\ m<=c2/\ B=A*Sl 1 (.slice a2 m c2) m (ints (kpR kp m))):=by
  refine fn_enterW func31 rfl ntmps31 (by simp) ?_;refine Zy ?_;refine Zy ?_;refine Ze2 ?_;refine tc_pre (A':=A*Sl 1 (.slice none 0 0) 0 (ints (kpR kp 0))) (λ _ _ h=>by rw [kpR_zero];exact sl_nil h) ?_;refine tc_loop (λ kk ρ BB=>∃ (i:Nat) (a3:Option Addr) (c3:Nat),(i<=m)/\ (i<=c3)/\ kk=m-i/\ ρ 3= .slice a3 i c3/\ ρ 4=(vn i)/\ ρ 0= .slice a m c/\ Dr BB (A*Sl 1 (.slice a3 i c3) i (ints (kpR kp i)))) (m:=m-(0)) ?_ ?_
  . exact ⟨0,none,0,by omega,by omega,rfl,rfl,rfl,rfl,drqz⟩
  intro k ρ B hI;obtain ⟨i,a3,c3,hp0,hp1,hkk1,hE3,hE4,hE0,hBA⟩:=hI;refine tc_pre hBA.sat ?_;clear hBA;refine te 3 hE3 ?_;refine te 4 hE4 ?_;refine te 0 hE0 ?_;refine Zi ?_;refine tlm ?_;refine tv (o_len underlying26 rfl) ?_;refine Zt ?_;refine tc_cond rfl (λ h=> ?_) (λ h=> ?_)
  . have hi:i<kp.length:=(by first|omega|(simp at h;omega));obtain ⟨y,hy⟩:∃y,kp[i]=y:=⟨_,rfl⟩;refine Zbg ?_;refine Zcg ?_;refine tlm ?_;refine tv (o_ixP1 underlying26 sz3 rfl rfl oqz (nn_rs (xs:=ints kp) (by repeat (first|exact hr|apply Rs.left)) (by rw [ints_length];omega))) ?_;refine tv (o_ldP p3 rfl (by repeat (first|exact hr|apply Rs.left)) (ints_at hi)) ?_;refine tl_env (d:=15) (v:= .int .i64 y) (congrArg (Value.int .i64) hy) ?_;refine tl_c rfl (o_call bd30 rfl (Within_c (i:=y) (n:=1000))) ?_;rintro _ _ ⟨rfl,rfl⟩;refine tl_x rfl (o_buildSlice1 underlying26 sz3 z3 wqz rfl) ?_;rintro _ _ ⟨b17,rfl,rfl⟩;refine tl_x rfl (o_apB underlying26 underlying26 sz3 by3 z3 rfl (by decide) (by decide) rfl rfl rfl ctqz rfl rfl oqz (show _=ints (kpR kp (i+1)) by rw [kpR_succ hi,hy];simp [ints,i64])) ?_;rintro _ _ ⟨a18,c18,rfl,hc18,rfl⟩;refine Zes ?_;refine Zfj ?_;exact ⟨_,by omega,i+1,_,_,by omega,hc18,rfl,rfl,rfl,rfl,drqz⟩
  obtain rfl:i=m:=by first|omega|(simp at h;omega)
  refine Zde ?_;refine Zh ?_;exact ⟨_,_,res1 rfl rfl,λ _ _ h=>h,a3,c3,rfl,hp1,rfl⟩
end Go.Vl

namespace Go.Vl
open Go Go.Proofs Go.Proofs.Tryz
attribute [local irreducible] crk crL crc Sl pt ro Dev imgS recS readS recsF rdW rdO rkT Parts rvl recordsS runsL adrF kcl xcl kys runA runsF layF linR flLs stoL writeT writeS comS clearS extX
theorem Recover12_ok {A R:SP}{C:SP->SP}{d:Nat}{s:DevS}(hc:Ct A (Dev d s) R C:=by exact cbqz){p lg:Nat}(hp:Has A p (cl (pocs lg d none) 110):=by exact hbqz){at_ sz:Nat}(hl:Has R lg (cl (lcs11 d at_ sz) 99):=by exact hbqz)(hlw:LogW (s.ls.length*64) at_ sz:=by assumption)(ho:s.off=false:=by assumption)(hroom:Room (sz+1) s:=by assumption):
    Fn Tryz.prog 41 #[pz p] A (λ r B=>∃e k s2,rollS at_ sz s=((k,e),s2)/\ r= .tuple #[.int .i64 k,.int .i64 e]/\ B=C (Dev d s2)):=by
  refine fn_enterW func41 rfl ntmps41 (by simp) ?_;have hi0:idlS s none=0:=(by unfold idlS;rw [ho];rfl);refine Zfm ?_;refine tl_c rfl (o_call bd111 rfl (idle12_c (hc:=hc) (ov:=none) (hp:=hp))) ?_;refine Zep ?_;refine tc_cond rfl (λ h=> ?_) (sbq ?_)
  . exfalso;rw [hi0] at h;simp at h
  intro h;refine Zbf ?_;refine Zcz ?_;refine tv (o_load p89 rfl hp rfl) ?_;refine tl_c rfl (o_call bd112 rfl (Rg.Rollback_c (hc:=hc) (hl:=hl) (hroom:=hroom) (hlw:=by assumption))) ?_;rintro _ _ ⟨e14,k14,s14,hs14,rfl,rfl⟩;refine Zbw ?_;refine Zh ?_;exact ⟨.tuple #[.int .i64 k14,.int .i64 e14],_,res2 rfl rfl rfl,Dr.sat drqz,e14,k14,s14,hs14,rfl,rfl⟩
end Go.Vl

namespace Go.Vl
open Go Go.Proofs Go.Proofs.Tryz
structure Cr12 where
  af:Int
  a:Option Addr
  c:Nat
  kp:List Int
def Cr12.cells (x:Cr12):List Value:=[.int .i64 x.af,.slice x.a x.kp.length x.c]
structure CrW (A:SP) (x:Cr12):Prop where
  af: -9223372036854775808<=x.af/\ x.af<=9223372036854775807
  len:x.kp.length<=17592186044416
  cap:x.kp.length<=x.c
  rs:Rs A x.a (ints x.kp)
theorem CrW.left {A X:SP}{x:Cr12}(h:CrW A x):CrW (A*X) x:=⟨h.af,h.len,h.cap,h.rs.left⟩
def ctl (l:List Cr12):List Value:=l.flatMap Cr12.cells
theorem ctl_len (l:List Cr12):(ctl l).length=l.length*2:=fm_length (f:=Cr12.cells) λ _ _=>rfl
theorem ctl_at {l:List Cr12}{i:Nat}(h:i<l.length):((ctl l).drop (i*2)).take 2=l[i].cells:=fm_at (f:=Cr12.cells) (λ _ _=>rfl) h
theorem ctl_at0 {l:List Cr12}{i:Nat}{x:Cr12}(h:l[i]? =some x):(ctl l)[i*2+0]? =some (.int .i64 x.af):=by
  obtain ⟨hi,rfl⟩:=List.getElem?_eq_some_iff.1 h;have:=congrArg (·[0]?) (ctl_at hi)
  simp only [List.getElem?_take,List.getElem?_drop] at this
  simpa [Cr12.cells] using this
theorem ctl_at1 {l:List Cr12}{i:Nat}{x:Cr12}(h:l[i]? =some x):(ctl l)[i*2+1]? =some (.slice x.a x.kp.length x.c):=by
  obtain ⟨hi,rfl⟩:=List.getElem?_eq_some_iff.1 h;have:=congrArg (·[1]?) (ctl_at hi)
  simp only [List.getElem?_take,List.getElem?_drop] at this
  simpa [Cr12.cells] using this
attribute [local irreducible] crk crL crc Sl pt ro Dev imgS recS readS recsF rdW rdO rkT Parts rvl recordsS runsL adrF kcl xcl kys runA runsF layF linR flLs stoL writeT writeS comS clearS rollS extX ovF kpR TxA
theorem Zbx {p r:Prop}(k:r)(h:Kq r->p:=by intro k;refine tl_c rfl (o_call bd34 rfl (Wake_c)) ?_;rintro _ _ ⟨rfl,rfl⟩;exact k.o):p:=h ⟨k⟩
theorem Zeu {p r:Prop}(k:r)(h:Kq r->p:=by intro k;refine Zbe ?_;refine tv (o_eqp underlying69 rfl rfl) ?_;exact k.o):p:=h ⟨k⟩
theorem Ze4 {p r:Prop}(k:r)(h:Kq r->p:=by intro k;refine Zb1 ?_;refine tl_bool (d:=111) rfl dbq (sbq ?_);exact k.o):p:=h ⟨k⟩
theorem recovered12_c {A R:SP}{d cc kr:Nat}{ca:Option Addr}{s:DevS}{c:ComK}{cs:List Cr12}(hA:A=R*Dev d s)(hc:ComOk c)(hs:Rec9 c s)(ho:s.off=false)(hg:Gd 16 (577*14+kr) s)(ha:s.arms.length<=1)(hr:Rs R ca (ctl cs))(hw:∀x∈cs,CrW R x)(hml:cs.length<=17592186044416):
    Fn Tryz.prog 35 #[pz d,.slice ca cs.length cc] A (λ v B=>∃p s2,v=(pz p)/\ Set9 c s2/\ s2.off=false/\ Gd 16 kr s2/\ (New0 c s->New0 c s2)/\ B=R*Dev d s2):=by
  refine fn_enterW func35 rfl ntmps35 (by simp) ?_;subst hA;refine Zy ?_;refine Ze2 ?_;refine tc_loop (λ kk ρ BB=>∃ (i:Nat) (s1:DevS),(i<=5)/\ (Rec9 c s1)/\ (s1.off=false)/\ (Gd 16 (577*(5-i)+(577*9+kr)) s1)/\ (s1.arms.length<=i+1)/\ (New0 c s->New0 c s1)/\ kk=5-i/\ ρ 5=(vn i)/\ ρ 0=(pz d)/\ ρ 1= .slice ca cs.length cc/\ Dr BB (R*Dev d s1)) (m:=5-(0)) ?_ ?_
  . exact ⟨0,s,by omega,hs,ho,hg.le oqz,by omega,id,rfl,rfl,rfl,rfl,drqz⟩
  intro k ρ B hI;obtain ⟨i,s1,hp0,hp1,hp2,hp3,hp4,hp5,hkk1,hE5,hE0,hE1,hBA⟩:=hI;refine tc_pre hBA.sat ?_;clear hBA;refine te 5 hE5 ?_;refine te 0 hE0 ?_;refine te 1 hE1 ?_;refine Zi ?_;refine tlm ?_;refine tv (o_len underlying68 rfl) ?_;refine Zcu ?_;refine tl_bool (d:=17) rfl (λ h=> ?_) (sbq ?_)
  . have hi1:i<cs.length:=(by first|(have h9:=of_decide_eq_true h;omega)|(simp at h;omega));refine tlm ?_;refine tv (o_lss rfl rfl) ?_;refine Ze7 ?_;refine tc_cond rfl (λ h=> ?_) (sbq ?_)
    . have hi5:i<5:=(by first|(have h9:=of_decide_eq_true h;omega)|(simp at h;omega));refine Zbg ?_;refine tc_seq ?_;have hil2:i<cs.length/\ i<5:=⟨hi1,hi5⟩;obtain ⟨x,hil⟩:∃x,cs[i]? =some x:=⟨cs[i]'hil2.1,List.getElem?_eq_getElem _⟩;have hxw:=hw x (List.mem_of_getElem? hil);have haf:=hxw.af;have hwf1:=hp3.wf;have hm60:0<=x.af%60/\ x.af%60<60:=⟨Int.emod_nonneg _ (by decide),Int.emod_lt_of_pos _ (by decide)⟩;obtain ⟨hA1,hA2⟩:=arm_law (af:=(1+x.af%60)) (k:=(kpR x.kp x.kp.length)) hwf1 hp2 oqz oqz kpR_b (by rw [kpR_len (Nat.le_refl _)];exact hxw.len);have harm4:({ s1 with arms:=s1.arms++[((1+x.af%60),(kpR x.kp x.kp.length))] }:DevS).arms.length=s1.arms.length+1:=(by simp);have hls4:({ s1 with arms:=s1.arms++[((1+x.af%60),(kpR x.kp x.kp.length))] }:DevS).ls=s1.ls:=rfl;have hof4:({ s1 with arms:=s1.arms++[((1+x.af%60),(kpR x.kp x.kp.length))] }:DevS).off=false:=hp2;obtain ⟨s4,hs4⟩:∃s4:DevS,{ s1 with arms:=s1.arms++[((1+x.af%60),(kpR x.kp x.kp.length))] }=s4:=⟨_,rfl⟩;rw [hs4] at hA1 hA2 harm4 hls4 hof4
      have hrec4:=rec_eqv hp1 hA2 hls4;have hgd4:Gd 16 (577+(577*(5-(i+1))+(577*9+kr))) s4:=⟨by rw [hls4];exact hp3.len,λ l hl=>by have:=hp3.room l (by rw [←hls4];exact hl);omega,hA2⟩;have hnew4:New0 c s1->New0 c s4:=λ h=>new_eqv h hA2 hls4
      obtain ⟨q9,e9,s9,r1,r2,r3,r4,r5⟩:=roll_law hc hrec4 hof4 hgd4;refine Zbq ?_;refine tl_c rfl (o_call bd90 rfl (opened12_c (s:=s1) (hls:=hp3.len))) ?_;rintro _ _ ⟨lg24,p24,rfl,rfl⟩;refine Za ?_;refine Zcy ?_;refine tc_regh (S:=R) mo drqz ?_
      show TH _ _ _ _ _ 22 (Array.replicate 22 false) _ _
      refine tm 0 rfl kqz rfl (o_move wqz) ?_;refine tm 1 rfl kqz rfl (o_eqp underlying69 rfl rfl) ?_;refine tm 2 rfl kqz rfl (o_move wqz) ?_;refine th_bool (d:=27) rfl dbq (sbq ?_);intro h;refine tm 3 rfl kqz rfl (o_move wqz) ?_;refine Zdv ?_;refine tm 6 rfl kqz rfl (o_ixP (a:=ca) underlying68 sz79 rfl rfl oqz (nn_rs (xs:=ctl cs) (by repeat (first|exact hr|apply Rs.left)) (λ _=>by rw [ctl_len];omega))) ?_;refine tm 7 rfl kqz rfl (o_faP (a:=ca) (m:=0) (o:=0) underlying79 rfl rfl sz3 rfl (nn_rs (xs:=ctl cs) (by repeat (first|exact hr|apply Rs.left)) (λ _=>by rw [ctl_len];omega))) ?_;refine tm 8 rfl kqz rfl (o_ldP (a:=ca) (xs:=ctl cs) p3 rfl (by repeat (first|exact hr|apply Rs.left)) (ctl_at0 hil)) ?_;refine tm 11 rfl kqz rfl (o_move wqz) ?_;refine tm 12 rfl kqz rfl (o_move wqz) ?_;refine tm 13 rfl kqz rfl (o_ixP (a:=ca) underlying68 sz79 rfl rfl oqz (nn_rs (xs:=ctl cs) (by repeat (first|exact hr|apply Rs.left)) (λ _=>by rw [ctl_len];omega))) ?_;refine tm 14 rfl kqz rfl (o_faP (a:=ca) (m:=0) (o:=1) underlying79 rfl rfl sz26 rfl (nn_rs (xs:=ctl cs) (by repeat (first|exact hr|apply Rs.left)) (λ _=>by rw [ctl_len];omega))) ?_;refine tm 15 rfl kqz rfl (o_ldP (a:=ca) (xs:=ctl cs) p26 rfl (by repeat (first|exact hr|apply Rs.left)) (ctl_at1 hil)) ?_;refine th_one (i:=9) kqz ?_;refine oh_c rfl rfl rfl (o_call bd30 rfl (Within_c (i:=x.af) (n:=60))) ?_;refine Zbh ?_;refine tm 10 rfl kqz rfl adqz ?_;refine th_one (i:=16) kqz ?_;refine oh_c rfl rfl rfl (o_call bd31 rfl (keeps12_c (kp:=x.kp) (hr:=by repeat (first|exact hxw.rs|apply Rs.left)) (hm:=rfl) (hml:=by have:=hxw.len;omega))) ?_;rintro _ _ ⟨a41,c41,rfl,hc41,rfl⟩;refine ⟨by repeat (first|with_reducible exact dr_refl|apply dr_keep|apply dr_drop), ?_⟩;refine tm 17 rfl kqz rfl (o_bS (l:=[_,_]) (pv_cons wqz (pv_cons wqz pv_nil)) underlying82 z82 (pl82 underlying82) rfl) ?_;refine th_one (i:=18) kqz ?_;refine oh_x rfl rfl rfl (o_buildSliceK (k:=2) (l:=[.int .i64 (1+x.af%60),.slice a41 x.kp.length c41]) underlying95 sz82 z82 rfl rfl (by decide)) ?_;rintro _ _ ⟨b43,rfl,rfl⟩;refine ⟨by repeat (first|with_reducible exact dr_refl|apply dr_keep|apply dr_drop), ?_⟩;refine th_one (i:=19) kqz ?_;refine oh_c rfl rfl rfl (o_call bd29 rfl (Arm_c (s:=s1) (kvs:=[.slice a41 x.kp.length c41]) (ars:=[((1+x.af%60),(kpR x.kp x.kp.length))]) (hr:=rda_one (by repeat (first|exact rs_pt rfl|apply Rs.left)) sq3z (kpR_len (Nat.le_refl _)) hc41) (hm:=rfl) (hl:=by decide) (hk:=by intro z hz;rw [List.mem_singleton.1 hz];exact ⟨by show _/\ (1+x.af%60)<=_;omega,by show (kpR x.kp x.kp.length).length<=_;rw [kpR_len (Nat.le_refl _)];exact hxw.len,λ k hk=>by have:=kpR_b k hk;omega⟩))) ?_;rintro _ _ ⟨e44,s44,hs44,rfl,rfl⟩;refine ⟨by repeat (first|with_reducible exact dr_refl|apply dr_keep|apply dr_drop), ?_⟩;obtain ⟨rfl,rfl⟩:=pair_eq hA1 hs44;refine tm 20 rfl kqz rfl (o_nei rfl rfl) ?_;refine tm 21 rfl kqz rfl (o_pick_f rfl wqz) ?_;refine Zb5 ?_;refine tc_cond rfl dbq (sbq ?_);intro h;refine Zbf ?_;refine tl_c rfl (o_call bd41 rfl (Recover12_ok (s:=s4) (p:=p24) (lg:=lg24) (at_:=128) (sz:=576) (hlw:=lw12 (by rw [hls4];exact hp3.len)) (ho:=hof4) (hroom:=room_le hgd4.room oqz))) ?_;rintro _ _ ⟨e49,k49,s49,hs49,rfl,rfl⟩;obtain ⟨hq9,rfl⟩:=pair_eq r1 hs49
      simp only [Prod.mk.injEq] at hq9
      obtain ⟨rfl,rfl⟩:=hq9;refine Zfv ?_;refine tv (o_eqi rfl rfl) ?_;refine tlm ?_;refine tl_bool (d:=54) rfl (λ h=> ?_) (λ h=> ?_)
      . obtain rfl:e9=0:=by first|exact of_decide_eq_true h|(simpa using h)
        obtain ⟨hoff9,hset9⟩:s9.off=false/\ Set9 c s9:=by rcases r5 with ⟨_,h1,h2⟩|⟨h1,_⟩;exact ⟨h1,h2⟩;cases h1
        refine Z0 ?_;refine tlm ?_;refine tv (o_ixP (a:=ca) underlying68 sz79 rfl rfl oqz (nn_rs (xs:=ctl cs) (by repeat (first|exact hr|apply Rs.left)) (λ _=>by rw [ctl_len];omega))) ?_;refine tv (o_faP (a:=ca) (m:=0) (o:=1) underlying79 rfl rfl sz26 rfl (nn_rs (xs:=ctl cs) (by repeat (first|exact hr|apply Rs.left)) (λ _=>by rw [ctl_len];omega))) ?_;refine tv (o_ldP (a:=ca) (xs:=ctl cs) p26 rfl (by repeat (first|exact hr|apply Rs.left)) (ctl_at1 hil)) ?_;refine tl_c rfl (o_call bd31 rfl (keeps12_c (kp:=x.kp) (hr:=by repeat (first|exact hxw.rs|apply Rs.left)) (hm:=rfl) (hml:=by have:=hxw.len;omega))) ?_;rintro _ _ ⟨a61,c61,rfl,hc61,rfl⟩;refine tl_c rfl (o_call bd33 rfl (Crash_c (s:=s9) (keep:=(kpR x.kp x.kp.length)) (hr:=by repeat (first|with_reducible exact rs_sl|apply Rs.left)) (hk:=λ k hk=>by have:=kpR_b k hk;omega) (hm:=kpR_len (Nat.le_refl _)) (hkl:=hxw.len))) ?_;rintro _ _ ⟨e62,s62,hs62,rfl,rfl⟩;obtain ⟨rfl,rfl⟩:=pair_eq (cr_law (k:=(kpR x.kp x.kp.length)) hoff9 kpR_b) hs62;refine tv (o_nei rfl rfl) ?_;refine Z5 ?_;refine tl_bool (d:=65) rfl dbq (sbq ?_);intro h;refine tlm ?_;refine Zb1 ?_;refine tl_bool (d:=68) rfl dbq (sbq ?_);intro h;refine Zck ?_;refine tv (o_pick_f rfl wqz) ?_;refine Z0 ?_;refine Zbx ?_;refine tl_env (d:=75) (v:= .int .i64 0) (by first|rfl|(show Value.int .i64 (if s9.off=true then 0 else 3)=_;rw [hoff9];rfl)) ?_;have hwG:WfD (goesS (kpR x.kp x.kp.length) s9):=goesS_wf r2.wf;have hrec9:Rec9 c { goesS (kpR x.kp x.kp.length) s9 with off:=false }:=rec_eqv (rec_goes (.inr hset9)) (wfd_on hwG) rfl;have hoff8:({ goesS (kpR x.kp x.kp.length) s9 with off:=false }:DevS).off=false:=rfl;have hgd9:Gd 16 (577*(5-(i+1))+(577*9+kr)) { goesS (kpR x.kp x.kp.length) s9 with off:=false }:=⟨(goes_len _ _).trans r2.len,λ l hl=>(crS_room (cr_law (k:=(kpR x.kp x.kp.length)) hoff9 kpR_b) r2.wf r2.room:Room _ (goesS (kpR x.kp x.kp.length) s9)) l hl,wfd_on hwG⟩;have harm9:({ goesS (kpR x.kp x.kp.length) s9 with off:=false }:DevS).arms.length<=i+1+1:=(by show s9.arms.length<=_;omega);have hnew9:New0 c s1->New0 c { goesS (kpR x.kp x.kp.length) s9 with off:=false }:=λ h=>new_eqv (new_goes (r4 (hnew4 h))) (wfd_on hwG) rfl
        refine Zds ?_;intro h;refine Zfl ?_;refine Zfj ?_;exact ⟨_,by omega,i+1,_,by omega,hrec9,hoff8,hgd9,harm9,λ h=>hnew9 (hp5 h),rfl,rfl,rfl,rfl,drqz⟩
      obtain ⟨rfl,hoff9,hrc9,har9⟩:e9=5/\ s9.off=true/\ Rec9 c s9/\ s9.arms.length<s4.arms.length:=by rcases r5 with ⟨h1,_⟩|h1;(subst h1;simp at h);exact h1
      refine Zby ?_;refine Zby ?_;refine tk ?_;refine tv (o_pick_f rfl wqz) ?_;refine Z0 ?_;refine Zb1 ?_;refine tl_bool (d:=68) rfl (sbq ?_) dbq;intro h;refine tlm ?_;refine tv (o_nei rfl rfl) ?_;refine tv (o_pick_t rfl wqz) ?_;refine Zbj ?_;refine tl_bool (d:=73) rfl dbq (sbq ?_);intro h;refine tlm ?_;refine Zbx ?_;refine tl_env (d:=75) (v:= .int .i64 0) (by first|rfl|(show Value.int .i64 (if s9.off=true then 0 else 3)=_;rw [hoff9];rfl)) ?_;have hrec9:Rec9 c { s9 with off:=false }:=rec_eqv hrc9 (wfd_on r2.wf) rfl;have hoff8:({ s9 with off:=false }:DevS).off=false:=rfl;have hgd9:Gd 16 (577*(5-(i+1))+(577*9+kr)) { s9 with off:=false }:=⟨r2.len,r2.room,wfd_on r2.wf⟩;have harm9:({ s9 with off:=false }:DevS).arms.length<=i+1+1:=(by show s9.arms.length<=_;omega);have hnew9:New0 c s1->New0 c { s9 with off:=false }:=λ h=>new_eqv (r4 (hnew4 h)) (wfd_on r2.wf) rfl
      refine Zds ?_;intro h;refine Zfl ?_;refine Zfj ?_;exact ⟨_,by omega,i+1,_,by omega,hrec9,hoff8,hgd9,harm9,λ h=>hnew9 (hp5 h),rfl,rfl,rfl,rfl,drqz⟩
    intro h;refine Zde ?_;refine tl_c rfl (o_call bd90 rfl (opened12_c (s:=s1) (hls:=hp3.len))) ?_;rintro _ _ ⟨lg79,p79,rfl,rfl⟩;refine Zeu ?_;refine Zm ?_;intro h;refine Zbf ?_;obtain ⟨q9,e9,s9,r1,r2,r3,r4,r5⟩:=roll_law (k:=577*6+kr) hc hp1 hp2 (hp3.le oqz);refine tl_c rfl (o_call bd41 rfl (Recover12_ok (s:=s1) (p:=p79) (lg:=lg79) (at_:=128) (sz:=576) (hlw:=lw12 hp3.len) (ho:=hp2) (hroom:=room_le hp3.room oqz))) ?_;rintro _ _ ⟨e84,k84,s84,hs84,rfl,rfl⟩;obtain ⟨hq9,rfl⟩:=pair_eq r1 hs84
    simp only [Prod.mk.injEq] at hq9
    obtain ⟨rfl,rfl⟩:=hq9
    have hw9:(e9=0/\ s9.off=false/\ Set9 c s9)∨(e9=5/\ s9.off=true/\ Rec9 c s9/\ s9.arms.length+0<=5):=by
      rcases r5 with h1|⟨h1,h2,h3,h4⟩
      . exact .inl h1
      exact .inr ⟨h1,h2,h3,by omega⟩
    refine Zb9 ?_;refine Za ?_;refine Ze2 ?_;refine tc_loop (λ kk ρ BB=>∃ (j:Nat) (s3:DevS) (e3:Int) (p3:Nat) (lg3:Nat),(j<=6)/\ ((e3=0/\ s3.off=false/\ Set9 c s3)∨(e3=5/\ s3.off=true/\ Rec9 c s3/\ s3.arms.length+j<=5))/\ (Gd 16 (577*(6-j)+kr) s3)/\ (New0 c s->New0 c s3)/\ kk=6-j/\ ρ 9=(pz p3)/\ ρ 11= .int .i64 e3/\ ρ 12=(vn j)/\ ρ 0=(pz d)/\ Dr BB (R*Dev d s3*pt lg3 (cl (lcs11 d 128 576) 99)*pt p3 (cl (pocs lg3 d none) 110))) (m:=6-(0)) ?_ ?_
    . exact ⟨0,s9,e9,p79,lg79,by omega,hw9,r2.le oqz,λ h=>r4 (hp5 h),rfl,rfl,rfl,rfl,rfl,drqz⟩
    intro k ρ B hI;obtain ⟨j,s3,e3,p3,lg3,hp0,hp1,hp2,hp3,hkk2,hE9,hE11,hE12,hE0,hBA⟩:=hI;refine tc_pre hBA.sat ?_;clear hBA;refine te 9 hE9 ?_;refine te 11 hE11 ?_;refine te 12 hE12 ?_;refine te 0 hE0 ?_;refine Zi ?_;refine Zcu ?_;refine tl_bool (d:=89) rfl (λ h=> ?_) (λ h=> ?_)
    . have hj6:j<6:=(by first|(have h9:=of_decide_eq_true h;omega)|(simp at h;omega));refine tlm ?_;refine tv (o_eqi rfl rfl) ?_;refine Ze7 ?_;refine tc_cond rfl (λ h=> ?_) (λ h=> ?_)
      . have he5:e3=5:=(by first|exact of_decide_eq_true h|(simpa using h))
        have hz8:s3.off=true/\ Rec9 c s3/\ s3.arms.length+j<=5:=by
          rcases hp1 with ⟨h1,_⟩|⟨_,h1⟩
          . omega
          exact h1
        subst he5;obtain ⟨ho8,hrc8,har8⟩:=hz8;refine Zew ?_;refine tl_c rfl (o_call bd90 rfl (opened12_c (s:=s3) (hls:=hp2.len))) ?_;rintro _ _ ⟨lg96,p96,rfl,rfl⟩;refine Zeu ?_;refine tlm ?_;refine tl_bool (d:=99) rfl dbq (sbq ?_);intro h;refine tlm ?_;refine Zbx ?_;refine tl_env (d:=101) (v:= .int .i64 0) (by first|rfl|(show Value.int .i64 (if s3.off=true then 0 else 3)=_;rw [ho8];rfl)) ?_;refine Zds ?_;intro h;refine Zc ?_;refine Zbq ?_;obtain ⟨q9,e9,s9,r1,r2,r3,r4,r5⟩:=roll_law (s:={ s3 with off:=false }) (k:=577*(6-(j+1))+kr) hc (rec_eqv hrc8 (wfd_on hp2.wf) rfl) rfl ⟨hp2.len,room_le hp2.room oqz,wfd_on hp2.wf⟩;have hnew8:New0 c s->New0 c s9:=λ h=>r4 (new_eqv (hp3 h) (wfd_on hp2.wf) rfl)
        have hw8:(e9=0/\ s9.off=false/\ Set9 c s9)∨(e9=5/\ s9.off=true/\ Rec9 c s9/\ s9.arms.length+(j+1)<=5):=by
          rcases r5 with h1|⟨h1,h2,h3,h4⟩
          . exact .inl h1
          exact .inr ⟨h1,h2,h3,by have:s9.arms.length<s3.arms.length:=h4;omega⟩
        refine tl_c rfl (o_call bd41 rfl (Recover12_ok (s:={ s3 with off:=false }) (p:=p96) (lg:=lg96) (at_:=128) (sz:=576) (hlw:=lw12 hp2.len) (ho:=rfl) (hroom:=room_le hp2.room oqz))) ?_;rintro _ _ ⟨e106,k106,s106,hs106,rfl,rfl⟩;obtain ⟨hq9,rfl⟩:=pair_eq r1 hs106
        simp only [Prod.mk.injEq] at hq9
        obtain ⟨rfl,rfl⟩:=hq9;refine Zb9 ?_;refine Zbr ?_;refine Zfj ?_;exact ⟨_,by omega,j+1,_,_,_,_,by omega,hw8,r2,hnew8,rfl,rfl,rfl,rfl,rfl,drqz⟩
      have he0:e3≠5:=(by first|exact of_decide_eq_false h|(simpa using h))
      have hz9:e3=0/\ s3.off=false/\ Set9 c s3:=by
        rcases hp1 with h1|⟨h1,_⟩
        . exact h1
        exact absurd h1 he0
      clear he0;obtain ⟨he0,ho9,hset9⟩:=hz9;subst he0;refine Zg ?_;refine Zi ?_;refine Ze4 ?_;intro h;refine tlm ?_;refine tl_c rfl (o_call bd44 rfl (State12_c (s:=s3) (at_:=128) (sz:=576) (hl:=(by repeat (first|with_reducible exact has_here|with_reducible exact has_pt|apply has_left))) (hp:=(by repeat (first|with_reducible exact has_here|with_reducible exact has_pt|apply has_left))) (hlw:=lw12 hp2.len))) ?_;rintro _ _ ⟨rfl,rfl⟩;refine tl_env (d:=113) (v:= .int .i64 0) (by show Value.int .i64 (stpS 128 576 s3)=_;unfold stpS;rw [(set_none hc hset9 ho9).2];rfl) ?_;refine Zds ?_;intro h;refine Zbf ?_;refine Zh ?_;exact ⟨_,_,res1 rfl rfl,Dr.sat drqz,p3,s3,rfl,hset9,ho9,hp2.le oqz,hp3,rfl⟩
    have hz9:e3=0/\ s3.off=false/\ Set9 c s3:=by
      rcases hp1 with h1|⟨_,_,_,h1⟩
      . exact h1
      exfalso;first|(have h9:=of_decide_eq_false h;omega)|(simp at h;omega)
    obtain ⟨he0,ho9,hset9⟩:=hz9;subst he0;refine Zck ?_;refine nq ?_;refine tc_cond_f rfl ?_;refine Zg ?_;refine Zi ?_;refine Ze4 ?_;intro h;refine tlm ?_;refine tl_c rfl (o_call bd44 rfl (State12_c (s:=s3) (at_:=128) (sz:=576) (hl:=(by repeat (first|with_reducible exact has_here|with_reducible exact has_pt|apply has_left))) (hp:=(by repeat (first|with_reducible exact has_here|with_reducible exact has_pt|apply has_left))) (hlw:=lw12 hp2.len))) ?_;rintro _ _ ⟨rfl,rfl⟩;refine tl_env (d:=113) (v:= .int .i64 0) (by show Value.int .i64 (stpS 128 576 s3)=_;unfold stpS;rw [(set_none hc hset9 ho9).2];rfl) ?_;refine Zds ?_;intro h;refine Zbf ?_;refine Zh ?_;exact ⟨_,_,res1 rfl rfl,Dr.sat drqz,p3,s3,rfl,hset9,ho9,hp2.le oqz,hp3,rfl⟩
  intro h;refine Zck ?_;refine nq ?_;refine tc_cond_f rfl ?_;refine Zde ?_;refine tl_c rfl (o_call bd90 rfl (opened12_c (s:=s1) (hls:=hp3.len))) ?_;rintro _ _ ⟨lg79,p79,rfl,rfl⟩;refine Zeu ?_;refine Zm ?_;intro h;refine Zbf ?_;obtain ⟨q9,e9,s9,r1,r2,r3,r4,r5⟩:=roll_law (k:=577*6+kr) hc hp1 hp2 (hp3.le oqz);refine tl_c rfl (o_call bd41 rfl (Recover12_ok (s:=s1) (p:=p79) (lg:=lg79) (at_:=128) (sz:=576) (hlw:=lw12 hp3.len) (ho:=hp2) (hroom:=room_le hp3.room oqz))) ?_;rintro _ _ ⟨e84,k84,s84,hs84,rfl,rfl⟩;obtain ⟨hq9,rfl⟩:=pair_eq r1 hs84
  simp only [Prod.mk.injEq] at hq9
  obtain ⟨rfl,rfl⟩:=hq9
  have hw9:(e9=0/\ s9.off=false/\ Set9 c s9)∨(e9=5/\ s9.off=true/\ Rec9 c s9/\ s9.arms.length+0<=5):=by
    rcases r5 with h1|⟨h1,h2,h3,h4⟩
    . exact .inl h1
    exact .inr ⟨h1,h2,h3,by omega⟩
  refine Zb9 ?_;refine Za ?_;refine Ze2 ?_;refine tc_loop (λ kk ρ BB=>∃ (j:Nat) (s3:DevS) (e3:Int) (p3:Nat) (lg3:Nat),(j<=6)/\ ((e3=0/\ s3.off=false/\ Set9 c s3)∨(e3=5/\ s3.off=true/\ Rec9 c s3/\ s3.arms.length+j<=5))/\ (Gd 16 (577*(6-j)+kr) s3)/\ (New0 c s->New0 c s3)/\ kk=6-j/\ ρ 9=(pz p3)/\ ρ 11= .int .i64 e3/\ ρ 12=(vn j)/\ ρ 0=(pz d)/\ Dr BB (R*Dev d s3*pt lg3 (cl (lcs11 d 128 576) 99)*pt p3 (cl (pocs lg3 d none) 110))) (m:=6-(0)) ?_ ?_
  . exact ⟨0,s9,e9,p79,lg79,by omega,hw9,r2.le oqz,λ h=>r4 (hp5 h),rfl,rfl,rfl,rfl,rfl,drqz⟩
  intro k ρ B hI;obtain ⟨j,s3,e3,p3,lg3,hp0,hp1,hp2,hp3,hkk2,hE9,hE11,hE12,hE0,hBA⟩:=hI;refine tc_pre hBA.sat ?_;clear hBA;refine te 9 hE9 ?_;refine te 11 hE11 ?_;refine te 12 hE12 ?_;refine te 0 hE0 ?_;refine Zi ?_;refine Zcu ?_;refine tl_bool (d:=89) rfl (λ h=> ?_) (λ h=> ?_)
  . have hj6:j<6:=(by first|(have h9:=of_decide_eq_true h;omega)|(simp at h;omega));refine tlm ?_;refine tv (o_eqi rfl rfl) ?_;refine Ze7 ?_;refine tc_cond rfl (λ h=> ?_) (λ h=> ?_)
    . have he5:e3=5:=(by first|exact of_decide_eq_true h|(simpa using h))
      have hz8:s3.off=true/\ Rec9 c s3/\ s3.arms.length+j<=5:=by
        rcases hp1 with ⟨h1,_⟩|⟨_,h1⟩
        . omega
        exact h1
      subst he5;obtain ⟨ho8,hrc8,har8⟩:=hz8;refine Zew ?_;refine tl_c rfl (o_call bd90 rfl (opened12_c (s:=s3) (hls:=hp2.len))) ?_;rintro _ _ ⟨lg96,p96,rfl,rfl⟩;refine Zeu ?_;refine tlm ?_;refine tl_bool (d:=99) rfl dbq (sbq ?_);intro h;refine tlm ?_;refine Zbx ?_;refine tl_env (d:=101) (v:= .int .i64 0) (by first|rfl|(show Value.int .i64 (if s3.off=true then 0 else 3)=_;rw [ho8];rfl)) ?_;refine Zds ?_;intro h;refine Zc ?_;refine Zbq ?_;obtain ⟨q9,e9,s9,r1,r2,r3,r4,r5⟩:=roll_law (s:={ s3 with off:=false }) (k:=577*(6-(j+1))+kr) hc (rec_eqv hrc8 (wfd_on hp2.wf) rfl) rfl ⟨hp2.len,room_le hp2.room oqz,wfd_on hp2.wf⟩;have hnew8:New0 c s->New0 c s9:=λ h=>r4 (new_eqv (hp3 h) (wfd_on hp2.wf) rfl)
      have hw8:(e9=0/\ s9.off=false/\ Set9 c s9)∨(e9=5/\ s9.off=true/\ Rec9 c s9/\ s9.arms.length+(j+1)<=5):=by
        rcases r5 with h1|⟨h1,h2,h3,h4⟩
        . exact .inl h1
        exact .inr ⟨h1,h2,h3,by have:s9.arms.length<s3.arms.length:=h4;omega⟩
      refine tl_c rfl (o_call bd41 rfl (Recover12_ok (s:={ s3 with off:=false }) (p:=p96) (lg:=lg96) (at_:=128) (sz:=576) (hlw:=lw12 hp2.len) (ho:=rfl) (hroom:=room_le hp2.room oqz))) ?_;rintro _ _ ⟨e106,k106,s106,hs106,rfl,rfl⟩;obtain ⟨hq9,rfl⟩:=pair_eq r1 hs106
      simp only [Prod.mk.injEq] at hq9
      obtain ⟨rfl,rfl⟩:=hq9;refine Zb9 ?_;refine Zbr ?_;refine Zfj ?_;exact ⟨_,by omega,j+1,_,_,_,_,by omega,hw8,r2,hnew8,rfl,rfl,rfl,rfl,rfl,drqz⟩
    have he0:e3≠5:=(by first|exact of_decide_eq_false h|(simpa using h))
    have hz9:e3=0/\ s3.off=false/\ Set9 c s3:=by
      rcases hp1 with h1|⟨h1,_⟩
      . exact h1
      exact absurd h1 he0
    clear he0;obtain ⟨he0,ho9,hset9⟩:=hz9;subst he0;refine Zg ?_;refine Zi ?_;refine Ze4 ?_;intro h;refine tlm ?_;refine tl_c rfl (o_call bd44 rfl (State12_c (s:=s3) (at_:=128) (sz:=576) (hl:=(by repeat (first|with_reducible exact has_here|with_reducible exact has_pt|apply has_left))) (hp:=(by repeat (first|with_reducible exact has_here|with_reducible exact has_pt|apply has_left))) (hlw:=lw12 hp2.len))) ?_;rintro _ _ ⟨rfl,rfl⟩;refine tl_env (d:=113) (v:= .int .i64 0) (by show Value.int .i64 (stpS 128 576 s3)=_;unfold stpS;rw [(set_none hc hset9 ho9).2];rfl) ?_;refine Zds ?_;intro h;refine Zbf ?_;refine Zh ?_;exact ⟨_,_,res1 rfl rfl,Dr.sat drqz,p3,s3,rfl,hset9,ho9,hp2.le oqz,hp3,rfl⟩
  have hz9:e3=0/\ s3.off=false/\ Set9 c s3:=by
    rcases hp1 with h1|⟨_,_,_,h1⟩
    . exact h1
    exfalso;first|(have h9:=of_decide_eq_false h;omega)|(simp at h;omega)
  obtain ⟨he0,ho9,hset9⟩:=hz9;subst he0;refine Zck ?_;refine nq ?_;refine tc_cond_f rfl ?_;refine Zg ?_;refine Zi ?_;refine Ze4 ?_;intro h;refine tlm ?_;refine tl_c rfl (o_call bd44 rfl (State12_c (s:=s3) (at_:=128) (sz:=576) (hl:=(by repeat (first|with_reducible exact has_here|with_reducible exact has_pt|apply has_left))) (hp:=(by repeat (first|with_reducible exact has_here|with_reducible exact has_pt|apply has_left))) (hlw:=lw12 hp2.len))) ?_;rintro _ _ ⟨rfl,rfl⟩;refine tl_env (d:=113) (v:= .int .i64 0) (by show Value.int .i64 (stpS 128 576 s3)=_;unfold stpS;rw [(set_none hc hset9 ho9).2];rfl) ?_;refine Zds ?_;intro h;refine Zbf ?_;refine Zh ?_;exact ⟨_,_,res1 rfl rfl,Dr.sat drqz,p3,s3,rfl,hset9,ho9,hp2.le oqz,hp3,rfl⟩
end Go.Vl

namespace Go.Vl
open Go Go.Proofs Go.Proofs.Tryz
def TxR (t q r lg la lz:Nat)(f:TF)(s:DevS):SP:=λ h=>∃a m c vs D,vs.length=m/\ D.length=m/\ LnOk s.ls.length D f/\ (pt q (cl [pz r,pz lg,((pz t))] 235)*pt lg (cl [pz r,vn la,vn lz] 233)*RDev r s*pt t (cl [pz q,.slice a m c,.bool false] 263)*Sl 1 (.slice a m c) m (ptrV vs)*RLines vs D f) h
def TxE (t q r lg la lz:Nat)(s:DevS):SP:=(pt q (cl [pz r,pz lg,.pointer none] 235))*(pt lg (cl [pz r,vn la,vn lz] 233))*RDev r s*(pt t (cl [pz q,.slice none 0 0,.bool true] 263))
theorem com_gd {la lz k:Nat}{f:TF}{s s2:DevS}{e:Int}{b:Bool}(hg:Gd s.ls.length (2*(s.ls.length*64)+lz+8+k) s)(hby:∀a c,f a=some c->c.1<256)(htop:s.ls.length*64<=4194304)(hc:comS la lz (s.ls.length*64) f s=((e,b),s2)):Gd s.ls.length k s2:=by
  have hPF:=runP_Fb (n:=s.ls.length*64) (k:=true) hby;have hPL:=runP_Fb (n:=s.ls.length*64) (k:=false) hby;have haf:=adr_len (s.ls.length*64) true f;have hal:=adr_len (s.ls.length*64) false f;have hfs:=hPF.sum;have hls:=hPL.sum;have hll:=hPL.len;obtain ⟨LF,hLF⟩:∃L,runsF (s.ls.length*64) true f=L:=⟨_,rfl⟩;obtain ⟨LL,hLL⟩:∃L,runsF (s.ls.length*64) false f=L:=⟨_,rfl⟩;rw [hLF] at hPF hfs
  rw [hLL] at hPL hls hll
  have g1:Gd s.ls.length (s.ls.length*64+lz+8+k) (writeT LF s).2:=gd_writeT (e:=(writeT LF s).1) rfl hPF.ok (hg.le oqz);have g2:Gd s.ls.length (s.ls.length*64+4+k) (writeS la lz (extX LL) (writeT LF s).2).2:=gd_write (g1.le oqz) (by rw [ext_len];omega);have g3:Gd s.ls.length (4+k) (writeT LL (writeS la lz (extX LL) (writeT LF s).2).2).2:=gd_writeT (e:=(writeT LL (writeS la lz (extX LL) (writeT LF s).2).2).1) rfl hPL.ok (g2.le oqz);have g4:=gd_fe g3;have g5:Gd s.ls.length k (clearS la (fe (writeT LL (writeS la lz (extX LL) (writeT LF s).2).2).2).2).2:=gd_clear (g4.le oqz);have g1f:=gd_fe g1
  unfold comS at hc
  rw [hLF,hLL] at hc
  split at hc
  . obtain rfl:=(Prod.mk.inj hc).2;exact g1.le oqz
  split at hc
  . split at hc
    . obtain rfl:=(Prod.mk.inj hc).2;exact g1.le oqz
    obtain rfl:=(Prod.mk.inj hc).2;exact g1f.le oqz
  split at hc
  . obtain rfl:=(Prod.mk.inj hc).2;exact g2.le oqz
  split at hc
  . obtain rfl:=(Prod.mk.inj hc).2;exact g3.le oqz
  split at hc
  . obtain rfl:=(Prod.mk.inj hc).2;exact g4.le oqz
  obtain rfl:=(Prod.mk.inj hc).2;exact g5
theorem stI_hd (xs:List Nat):((stI xs).drop 128).take 8=List.replicate 8 0:=by
  have:=spl_mid (l:=sizedL 1024 xs) (b:=List.replicate 8 0) (p:=128) (by rw [List.length_replicate,sized_len];decide);rw [List.length_replicate] at this
  unfold stI;exact this
theorem stD_arms (xs:List Nat):(stD xs).arms=[]:=rfl
theorem stD_cln (xs:List Nat):Cln (stD xs):=cln_from 16 (stI xs)
theorem stoL_phi:∀ (l:List (Nat×List Nat)) (s:DevS),phi (stoL l s).2<=phi s
  |[],s=>Nat.le_refl _
  |r::l,s=>by
    have h1:=sto_phi (r.1:Nat) r.2 s
    unfold stoL
    split
    . exact h1
    exact Nat.le_trans (stoL_phi l _) h1
theorem flLs_phi:∀ (l:List Nat) (s:DevS),phi (flLs l s).2<=phi s
  |[],s=>Nat.le_refl _
  |q::l,s=>by
    have h1:=fl1_phi ((q*64:Nat):Int) s
    unfold flLs
    split
    . exact h1
    exact Nat.le_trans (flLs_phi l _) h1
theorem writeT_phi (l:List (Nat×List Nat))(s:DevS):phi (writeT l s).2<=phi s:=by
  unfold writeT
  split
  . exact stoL_phi l s
  exact Nat.le_trans (flLs_phi _ _) (stoL_phi l s)
theorem clear_phi (at_:Nat)(s:DevS):phi (clearS at_ s).2<=phi s:=by
  unfold clearS
  split
  . exact Nat.le_refl _
  exact pubP_phi _ _ _
theorem com_phi {at_ sz n:Nat}{f:TF}{s:DevS}:phi (comS at_ sz n f s).2<=phi s:=by
  have h1:=writeT_phi (runsF n true f) s;have h2:=writeS_phi at_ sz (extX (runsF n false f)) (writeT (runsF n true f) s).2;have h3:=writeT_phi (runsF n false f) (writeS at_ sz (extX (runsF n false f)) (writeT (runsF n true f) s).2).2;have h4:=fe_phi (writeT (runsF n false f) (writeS at_ sz (extX (runsF n false f)) (writeT (runsF n true f) s).2).2).2;have h5:=clear_phi at_ (fe (writeT (runsF n false f) (writeS at_ sz (extX (runsF n false f)) (writeT (runsF n true f) s).2).2).2).2;have h6:=fe_phi (writeT (runsF n true f) s).2
  unfold comS
  repeat' split
  all_goals (dsimp only;omega)
attribute [local irreducible] runsF adrF runsL sumL
theorem whole_com {f:TF}{I:List Nat}{s:DevS}{k:Nat}(hc:ComOk (comK f I))(hby:∀a c,f a=some c->c.1<256)(hw:WfD s)(hO:s.off=false)(hcl:Cln s)(hlen:s.ls.length=16)(hi:imgS s=I)(ha:s.arms.length<=1)(hk:k<=1099511627776):
    ∃e s2,comS 128 576 1024 f s=((e,true),s2)/\ s2.arms.length<=1/\ Gd 16 k s2/\ ((e=0/\ s2.off=false/\ New0 (comK f I) s2)∨(e=5/\ s2.off=true/\ s.arms≠[]/\ Rec9 (comK f I) s2)):=by
  obtain ⟨h1,h2⟩:=com_sum (I:=I) hby;have e1:runsF 1024 true f=(comK f I).F:=rfl;have e2:runsF 1024 false f=(comK f I).L:=rfl;obtain ⟨e,s2,g1,g2⟩:=com_law hc (f:=f) e1 e2 hw hO hcl hlen hi h1 h2;have hn:s.ls.length*64=1024:=(by rw [hlen]);have hph:=com_phi (at_:=128) (sz:=576) (n:=1024) (f:=f) (s:=s);rw [g1] at hph
  have hp0:phi s=s.arms.length:=(by unfold phi;rw [hO];simp)
  have hgd:Gd 16 k s2:=by
    have h0:Gd s.ls.length (2*(s.ls.length*64)+576+8+k) s:=⟨rfl,room_cln hcl oqz,hw⟩;have:=com_gd h0 hby oqz (la:=128) (lz:=576) (e:=e) (b:=true) (s2:=s2) (by rw [hn];exact g1);rw [hlen] at this;exact this
  refine ⟨e,s2,g1, ?_,hgd, ?_⟩
  . have:s2.arms.length<=phi s2:=phi_arms s2;have h9:phi s2<=phi s:=hph
    omega
  rcases g2 with ⟨rfl,a2,a3⟩|⟨rfl,a2,a3⟩
  . exact .inl ⟨rfl,a2,a3⟩
  refine .inr ⟨rfl,a2,λ e9=> ?_, ?_⟩
  . have h9:phi s2<=phi s:=hph;rw [hp0,e9] at h9
    have:phi s2=1+s2.arms.length:=(by unfold phi;rw [a2];simp;omega)
    simp at h9;omega
  rcases a3 with a3|a3|a3
  . exact .inr (.inl a3)
  . exact .inl a3
  exact .inr (.inr (.inl a3))
theorem lose_law {c:ComK}{s:DevS}{kp:List Int}{k:Nat}(hO:s.off=false)(hkp:∀x∈kp,0<=x/\ x<1000)(hg:Gd 16 k s):Gd 16 k { goesS kp s with off:=false }/\ (Set9 c s->Set9 c { goesS kp s with off:=false })/\ (New0 c s->New0 c { goesS kp s with off:=false })/\ ({ goesS kp s with off:=false }:DevS).arms=s.arms:=by
  have hwG:WfD (goesS kp s):=goesS_wf hg.wf;refine ⟨⟨(goes_len _ _).trans hg.len,λ l hl=>(crS_room (cr_law (k:=kp) hO hkp) hg.wf hg.room:Room _ (goesS kp s)) l hl,wfd_on hwG⟩,λ h=>set_eqv (set_goes h) (wfd_on hwG) rfl,λ h=>new_eqv (new_goes h) (wfd_on hwG) rfl,rfl⟩
theorem back_law {c:ComK}{s:DevS}{k:Nat}(hg:Gd 16 k s):Gd 16 k { s with off:=false }/\ (Rec9 c s->Rec9 c { s with off:=false }):=⟨⟨hg.len,hg.room,wfd_on hg.wf⟩,λ h=>rec_eqv h (wfd_on hg.wf) rfl⟩
theorem fin_at {f:TF}{I:List Nat}{s:DevS}(hc:ComOk (comK f I))(hout:∀a,1024<=a->f a=none)(hin:∀a,f a≠none->(64<=a/\ a<128)∨(704<=a/\ a<1024))(hs:Set9 (comK f I) s)(hI:(imgS s).length=1024):
    ∃nw:Bool,(New0 (comK f I) s->nw=true)/\∀i,i<1024->∃v u,(imgS s)[i]? =some v/\ I[i]? =some u/\ (kdF f i=0->(i<128∨704<=i)->v=u)/\ (kdF f i=1->v=if nw=true then byF f i else u)/\ (nw=true->0<kdF f i->v=byF f i):=by
  obtain ⟨nw,h1,h2⟩:=fin_law hc hout hin hs;refine ⟨nw,h1,λ i hi=> ?_⟩;have hIl:=hc.i.len;obtain ⟨v,hv⟩:∃v,(imgS s)[i]? =some v:=⟨_,List.getElem?_eq_getElem oqz⟩;obtain ⟨u,hu⟩:∃u,I[i]? =some u:=⟨_,List.getElem?_eq_getElem (show i<I.length from hIl▸hi)⟩;obtain ⟨g1,g2,g3⟩:=h2 i hi;rw [hv,hu] at g1 g2
  rw [hv] at g3
  refine ⟨v,u,hv,hu,λ hk hl=> ?_,λ hk=> ?_,λ hn hk=> ?_⟩
  . exact Option.some.inj (g1 (kdO_none.1 (kd_zero.1 hk)) hl)
  . have:=g2 (isK_iff.1 (kd_one.1 hk))
    split at this
    . rw [if_pos (by assumption)];exact Option.some.inj this
    rw [if_neg (by assumption)];exact Option.some.inj this
  refine Option.some.inj (g3 hn λ h9=> ?_);have:=kd_zero.2 (kdO_none.2 h9)
  omega
attribute [local irreducible] crk crL crc Sl pt ro Dev imgS recS readS recsF rdW rdO rkT Parts rvl recordsS kcl xcl kys runA layF linR flLs stoL writeT writeS comS clearS rollS extX ovF kpR newS fW fW1 sizedL bkc ptl stI stD laysK comK
theorem Zft {p r:Prop}(k:r)(h:Kq r->p:=by intro k;refine Z1 ?_;refine ql_v rfl (o_nilCheck rfl) ?_;exact k.o):p:=h ⟨k⟩
theorem Zcs {p r:Prop}(k:r)(h:Kq r->p:=by intro k;refine ql_skip rfl ?_;refine ql_v rfl (o_pick_f rfl wqz) ?_;exact k.o):p:=h ⟨k⟩
theorem TxnWhole_f (F:SP){ai pa ca:Option Addr}{mi ci n pc cc:Nat}{xs:List Nat}{l:List Pu12}{cs:List Cr12}(hi9:Rs F ai (bys xs))(hm9:xs.length=mi)(hb9:∀z∈xs,z<256)(hml:mi<=140737488351232)(hr:Rs F pa (ptl l))(hn:l.length=n)(hw:∀z∈l,PuW F z)(hr8:Rs F ca (ctl cs))(hcw:∀x∈cs,CrW F x)(hcl8:cs.length<=17592186044416)(hcc:cs.length<=cc):
    Fn Tryz.prog 7 #[.slice ai mi ci,.slice pa n pc,.slice ca cs.length cc] (F) (λ r B=>r= .bool true/\ B=F):=by
  refine fn_enterW func7 rfl ntmps7 (by simp) ?_;have hls:=stD_len xs;have hso:=stD_off xs;have hsi:=stI_len xs;have him:=stD_img hb9;have hsw:=stD_wf hb9;have hcl0:Cln (stD xs):=stD_cln xs;have har0:=stD_arms xs;refine Zd2 ?_;refine tl_c rfl (o_call bd26 rfl (start12_c (xs:=xs) (hr:=by repeat (first|exact hi9|apply Rs.left)) (hm:=hm9) (hb:=hb9))) ?_;rintro _ _ ⟨a21,c21,d21,p21,t21,lg21,mb21,rfl,hc21,rfl⟩;refine tlm ?_;refine Zl ?_;refine Zbw ?_;refine tla ?_;refine tla ?_;refine Za ?_;refine sr ?_;refine tv (o_bS (l:=bkc tf0) (z:=bkc tf0) (vs:=[]) pv_nil underlying76 zbk (pl76 underlying76) rfl) ?_;refine tl_x rfl (o_box rfl cbk) ?_;rintro _ _ ⟨b27,rfl,rfl⟩;refine Zbe ?_;refine Zdb ?_;refine tl_bool (d:=30) rfl dbq (sbq ?_);intro h;refine tl_c rfl (o_call bd27 rfl (works_c)) ?_;refine Zcc ?_;refine Zbj ?_;refine tl_bool (d:=34) rfl dbq (sbq ?_);intro h;refine Z0 ?_;refine tlm ?_;refine tl_c rfl (o_call bd28 rfl (puts12_c (A:=F*Sl 1 (.slice a21 1024 c21) 1024 (bys (stI xs))) (bk:=b27) (t:=t21) (p:=p21) (lg:=lg21) (d:=d21) (mb:=mb21) (l:=l) (M:=⟨[],0⟩) (s:=stD xs) (hA:=by ac_rfl) (hr:=by repeat (first|exact hr|apply Rs.left)) (hn:=hn) (hw:=λ z hz=>(hw z hz).left) (hM:=mf_nil 0 1024) (hls:=hls) (ho:=hso))) ?_;rintro _ _ ⟨M38,rfl,hM38,rfl⟩;have hc9:ComOk (comK (laysK l 8) (stI xs)):=comK_ok (Nat.le_refl 8) hM38.out hM38.by_ ⟨hsi,stI_b hb9⟩ (stI_hd xs);refine tv (o_not rfl) ?_;refine tv (o_pick_f rfl wqz) ?_;refine Zm ?_;intro h;refine Zc ?_;refine Zcl ?_;refine tv (o_len underlying68 rfl) ?_;refine Zdo ?_;refine tc_cut (λ ρ BB=>∃ (s3:DevS) (cs2:List Cr12) (ca2:Option Addr) (cc2:Nat) (dn:Bool),(Rec9 (comK (laysK l 8) (stI xs)) s3)/\ (s3.off=false)/\ (Gd 16 (577*15) s3)/\ (s3.arms.length<=1)/\ (dn=true->New0 (comK (laysK l 8) (stI xs)) s3)/\ (Rs F ca2 (ctl cs2))/\ (∀x∈cs2,CrW F x)/\ (cs2.length<=17592186044416)/\ ρ 2= .slice ca2 cs2.length cc2/\ ρ 12= .bool dn/\ ρ 7= .slice a21 1024 c21/\ ρ 8=(pz d21)/\ ρ 11=(pz b27)/\ Dr BB (F*Sl 1 (.slice a21 1024 c21) 1024 (bys (stI xs))*pt b27 (cl (bkc (laysK l 8)) 76)*Dev d21 s3)) ?_ ?_
  . skip
    refine tc_cond rfl (λ h=> ?_) (λ h=> ?_)
    . have hcs0:0<cs.length:=(by first|omega|(simp at h;omega));obtain ⟨x,hil⟩:∃x,cs[0]? =some x:=⟨_,List.getElem?_eq_getElem hcs0⟩;have hxw:=hcw x (List.mem_of_getElem? hil);have haf:=hxw.af;have hm120:0<=x.af%120/\ x.af%120<120:=⟨Int.emod_nonneg _ (by decide),Int.emod_lt_of_pos _ (by decide)⟩;obtain ⟨hA1,hA2⟩:=arm_law (s:=stD xs) (af:=(1+x.af%120)) (k:=(kpR x.kp x.kp.length)) hsw hso (by rw [har0];decide) oqz kpR_b (by rw [kpR_len (Nat.le_refl _)];exact hxw.len);have harm4:({ stD xs with arms:=(stD xs).arms++[((1+x.af%120),(kpR x.kp x.kp.length))] }:DevS).arms.length<=1:=(by show ((stD xs).arms++[((1+x.af%120),(kpR x.kp x.kp.length))]).length<=1;rw [har0];exact Nat.le_refl 1);have hls4:({ stD xs with arms:=(stD xs).arms++[((1+x.af%120),(kpR x.kp x.kp.length))] }:DevS).ls=(stD xs).ls:=rfl;have hof4:({ stD xs with arms:=(stD xs).arms++[((1+x.af%120),(kpR x.kp x.kp.length))] }:DevS).off=false:=hso;obtain ⟨s4,hs4⟩:∃s4:DevS,{ stD xs with arms:=(stD xs).arms++[((1+x.af%120),(kpR x.kp x.kp.length))] }=s4:=⟨_,rfl⟩;rw [hs4] at hA1 hA2 harm4 hls4 hof4
      have hlen4:s4.ls.length=16:=(by rw [hls4];exact hls);have him4:imgS s4=stI xs:=(by rw [←him];unfold imgS;rw [hls4]);have hcl4:Cln s4:=λ l9 h9=>hcl0 l9 (by rw [←hls4];exact h9)
      obtain ⟨e6,s6,r1,r2,r3,r4⟩:=whole_com (k:=577*15) hc9 hM38.by_ hA2 hof4 hcl4 hlen4 him4 harm4 (by decide);refine Zb ?_;refine tv (o_ixP (a:=ca) (j:=0) underlying68 sz79 rfl rfl oqz (nn_rs (xs:=ctl cs) (by repeat (first|exact hr8|apply Rs.left)) (λ _=>by rw [ctl_len];omega))) ?_;refine tv (o_ldPN (a:=ca) (xs:=ctl cs) (vs:=x.cells) a79 sz79 rfl (by repeat (first|exact hr8|apply Rs.left)) (by rw [ctl_at hcs0,←Option.some.inj ((List.getElem?_eq_getElem hcs0).symm.trans hil)]) rfl (by decide)) ?_;refine tl_env (d:=46) (v:= .agg #[.int .i64 x.af,.slice x.a x.kp.length x.c]) (rfl) ?_;refine tl_x rfl (o_alloc z79 rfl) ?_;rintro _ _ ⟨b13,rfl,rfl⟩;refine tl_u rfl (o_stUN rfl upqz sz79 rfl rfl rfl (by first|decide|simp|omega) rfl) ?_;refine nq ?_;refine Zcy ?_;refine tc_eq (show _=F*Sl 1 (.slice a21 1024 c21) 1024 (bys (stI xs))*pt b27 (cl (bkc (laysK l 8)) 76)*pt p21 (cl (pocs lg21 d21 (if false then none else some t21)) 110)*pt lg21 (cl (lcs11 d21 128 576) 99)*pt t21 (cl (txcs p21 mb21 false) 113)*pt mb21 (mpo .i64 M38)*Dev d21 (stD xs)*pt b13 (cl [.int .i64 x.af,.slice x.a x.kp.length x.c] 79) by unfold TxA;ac_rfl) ?_;refine tc_regh (S:=F*pt b13 (cl [.int .i64 x.af,.slice x.a x.kp.length x.c] 79)) mo drqz ?_
      show TH _ _ _ _ _ 12 (Array.replicate 12 false) _ _
      refine tm 0 rfl kqz rfl (o_move wqz) ?_;refine tm 1 rfl kqz rfl (o_fieldAddr (o:=0) underlying79 rfl rfl sz3 rfl) ?_;refine tm 2 rfl kqz rfl (by first|exact o_load p3 rfl hsqz rfl|exact o_loadC p3 rfl (by assumption)) ?_;refine tm 5 rfl kqz rfl (o_fieldAddr (o:=1) underlying79 rfl rfl sz26 rfl) ?_;refine tm 6 rfl kqz rfl (by first|exact o_load p26 rfl hsqz rfl|exact o_loadC p26 rfl (by assumption)) ?_;refine th_one (i:=3) kqz ?_;refine oh_c rfl rfl rfl (o_call bd30 rfl (Within_c (i:=x.af) (n:=120))) ?_;refine Zbh ?_;refine tm 4 rfl kqz rfl adqz ?_;refine th_one (i:=7) kqz ?_;refine oh_c rfl rfl rfl (o_call bd31 rfl (keeps12_c (kp:=x.kp) (hr:=by repeat (first|exact hxw.rs|apply Rs.left)) (hm:=rfl) (hml:=by have:=hxw.len;omega))) ?_;rintro _ _ ⟨a54,c54,rfl,hc54,rfl⟩;refine ⟨by repeat (first|with_reducible exact dr_refl|apply dr_keep|apply dr_drop), ?_⟩;refine tm 8 rfl kqz rfl (o_bS (l:=[_,_]) (pv_cons wqz (pv_cons wqz pv_nil)) underlying82 z82 (pl82 underlying82) rfl) ?_;refine th_one (i:=9) kqz ?_;refine oh_x rfl rfl rfl (o_buildSliceK (k:=2) (l:=[.int .i64 (1+x.af%120),.slice a54 x.kp.length c54]) underlying95 sz82 z82 rfl rfl (by decide)) ?_;rintro _ _ ⟨b56,rfl,rfl⟩;refine Zfp ?_;refine oh_c rfl rfl rfl (o_call bd29 rfl (Arm_c (s:=stD xs) (kvs:=[.slice a54 x.kp.length c54]) (ars:=[((1+x.af%120),(kpR x.kp x.kp.length))]) (hr:=rda_one (by repeat (first|exact rs_pt rfl|apply Rs.left)) sq3z (kpR_len (Nat.le_refl _)) hc54) (hm:=rfl) (hl:=by decide) (hk:=by intro z hz;rw [List.mem_singleton.1 hz];exact ⟨by show _/\ (1+x.af%120)<=_;omega,by show (kpR x.kp x.kp.length).length<=_;rw [kpR_len (Nat.le_refl _)];exact hxw.len,λ k hk=>by have:=kpR_b k hk;omega⟩))) ?_;rintro _ _ ⟨e57,s57,hs57,rfl,rfl⟩;refine ⟨by repeat (first|with_reducible exact dr_refl|apply dr_keep|apply dr_drop), ?_⟩;obtain ⟨rfl,rfl⟩:=pair_eq hA1 hs57;refine tm 11 rfl kqz rfl (o_nei rfl rfl) ?_;refine Zb5 ?_;refine tc_cond rfl dbq (sbq ?_);intro h;refine Zei ?_;refine tc_pre (A':=F*Sl 1 (.slice a21 1024 c21) 1024 (bys (stI xs))*pt b27 (cl (bkc (laysK l 8)) 76)*pt b13 (cl [.int .i64 x.af,.slice x.a x.kp.length x.c] 79)*TxA t21 p21 lg21 d21 mb21 128 576 M38 false s4) (λ g w h=>(Dr.sat (A':=F*Sl 1 (.slice a21 1024 c21) 1024 (bys (stI xs))*pt b27 (cl (bkc (laysK l 8)) 76)*pt p21 (cl (pocs lg21 d21 (if false then none else some t21)) 110)*pt lg21 (cl (lcs11 d21 128 576) 99)*pt t21 (cl (txcs p21 mb21 false) 113)*pt mb21 (mpo .i64 M38)*Dev d21 s4*pt b13 (cl [.int .i64 x.af,.slice x.a x.kp.length x.c] 79)) drqz g w h).perm (by unfold TxA;ac_rfl)) ?_;refine Zbq ?_;refine tv (o_slice (l:=1) (h:=cs.length) underlying68 sz79 rfl (bnd_nat (r:=1) rfl) bnd_none oqz oqz) ?_;refine tl_env (d:=60) (v:= .slice (cutAddr ca cc 1 2) (cs.drop 1).length (cc-1)) (by show Value.slice _ _ _=_;rw [List.length_drop]) ?_;refine Z6 ?_;refine tl_c rfl (o_call bd32 rfl (Commit12_c (s:=s4) (n:=1024) (f:=(laysK l 8)) (M:=M38) (hM:=hM38) (hn:=by rw [hlen4]) (hlw:=lw12 hlen4) (ho:=hof4) (hroom:=room_cln hcl4 (by decide)))) ?_;rintro _ _ ⟨e62,b62,s62,M62,hs62,rfl,hM62,rfl⟩;obtain ⟨hq9,rfl⟩:=pair_eq r1 hs62
      simp only [Prod.mk.injEq] at hq9
      obtain ⟨rfl,rfl⟩:=hq9;refine Za ?_;refine tc_seq ?_;refine tc_pre (A':=F*Sl 1 (.slice a21 1024 c21) 1024 (bys (stI xs))*pt b27 (cl (bkc (laysK l 8)) 76)*pt b13 (cl [.int .i64 x.af,.slice x.a x.kp.length x.c] 79)*TxA t21 p21 lg21 d21 mb21 128 576 M62 true s6) (λ g w h=>Dr.sat drqz g w h) ?_;refine tc_pre (A':=F*Sl 1 (.slice a21 1024 c21) 1024 (bys (stI xs))*pt b27 (cl (bkc (laysK l 8)) 76)*Dev d21 s6*pt b13 (cl [.int .i64 x.af,.slice x.a x.kp.length x.c] 79)) (λ g w h=>Dr.sat (A':=F*Sl 1 (.slice a21 1024 c21) 1024 (bys (stI xs))*pt b27 (cl (bkc (laysK l 8)) 76)*Dev d21 s6*pt b13 (cl [.int .i64 x.af,.slice x.a x.kp.length x.c] 79)) drqz g w (h.perm (show _=F*Sl 1 (.slice a21 1024 c21) 1024 (bys (stI xs))*pt b27 (cl (bkc (laysK l 8)) 76)*pt p21 (cl (pocs lg21 d21 (if true then none else some t21)) 110)*pt lg21 (cl (lcs11 d21 128 576) 99)*pt t21 (cl (txcs p21 mb21 true) 113)*pt mb21 (mpo .i64 M62)*Dev d21 s6*pt b13 (cl [.int .i64 x.af,.slice x.a x.kp.length x.c] 79) by unfold TxA;ac_rfl))) ?_;refine Zbq ?_;refine tv (o_eqi rfl rfl) ?_;refine Z6 ?_;refine tv (o_not rfl) ?_;refine tlm ?_;refine tl_bool (d:=67) rfl (λ h=> ?_) (λ h=> ?_)
      . obtain ⟨rfl,hof6,hrec6⟩:e6=5/\ s6.off=true/\ Rec9 (comK (laysK l 8) (stI xs)) s6:=by
          rcases r4 with ⟨h1,_⟩|h1
          . subst h1;simp at h
          exact ⟨h1.1,h1.2.1,h1.2.2.2⟩
        obtain ⟨q1,q2⟩:=back_law (c:=(comK (laysK l 8) (stI xs))) r3;have w0:=q2 hrec6;have w2:=q1;have w3:({ s6 with off:=false }:DevS).arms.length<=1:=r2;have w4:(false:Bool)=true->New0 (comK (laysK l 8) (stI xs)) { s6 with off:=false }:=λ h9=>(by cases h9)
        have w5:Rs F (cutAddr ca cc 1 2) (ctl (cs.drop 1)):=by
          have h9:=rs_cut (l:=1) (k:=2) hr8 (cap:=cc) (by rw [ctl_len];omega)
          rwa [show (ctl cs).drop (1*2)=ctl (cs.drop 1) from fm_drop (f:=Cr12.cells) λ _ _=>rfl] at h9
        have w6:∀x∈cs.drop 1,CrW F x:=λ x hx=>hcw x (List.mem_of_mem_drop hx)
        have w7:(cs.drop 1).length<=17592186044416:=(by rw [List.length_drop];omega);refine tlm ?_;refine tv (o_nei rfl rfl) ?_;refine Z5 ?_;refine tl_bool (d:=71) rfl dbq (sbq ?_);intro h;refine Z0 ?_;refine tl_bool (d:=73) rfl dbq (sbq ?_);intro h;refine Zby ?_;refine Zck ?_;refine tv (o_pick_f rfl wqz) ?_;refine Z0 ?_;refine Zbx ?_;refine tl_env (d:=84) (v:= .int .i64 0) (by first|rfl|(show Value.int .i64 (if s6.off=true then 0 else 3)=_;rw [hof6];rfl)) ?_;refine Zds ?_;intro h;refine tc_skip ?_;exact ⟨{ s6 with off:=false },cs.drop 1,cutAddr ca cc 1 2,cc-1,false,w0,rfl,w2,w3,w4,w5,w6,w7,rfl,rfl,rfl,rfl,rfl,drqz⟩
      obtain ⟨rfl,hof6,hnew6⟩:e6=0/\ s6.off=false/\ New0 (comK (laysK l 8) (stI xs)) s6:=by
        rcases r4 with h1|⟨h1,_⟩
        . exact h1
        subst h1;simp at h
      obtain ⟨q1,q2,q3,q4⟩:=lose_law (c:=(comK (laysK l 8) (stI xs))) (kp:=(kpR x.kp x.kp.length)) hof6 kpR_b r3;have w0:Rec9 (comK (laysK l 8) (stI xs)) { goesS (kpR x.kp x.kp.length) s6 with off:=false }:= .inr (q2 (.inr (.inl hnew6)));have w2:=q1;have w3:({ goesS (kpR x.kp x.kp.length) s6 with off:=false }:DevS).arms.length<=1:=(by rw [q4];exact r2);have w4:(true:Bool)=true->New0 (comK (laysK l 8) (stI xs)) { goesS (kpR x.kp x.kp.length) s6 with off:=false }:=λ _=>q3 hnew6
      have w5:Rs F (cutAddr ca cc 1 2) (ctl (cs.drop 1)):=by
        have h9:=rs_cut (l:=1) (k:=2) hr8 (cap:=cc) (by rw [ctl_len];omega)
        rwa [show (ctl cs).drop (1*2)=ctl (cs.drop 1) from fm_drop (f:=Cr12.cells) λ _ _=>rfl] at h9
      have w6:∀x∈cs.drop 1,CrW F x:=λ x hx=>hcw x (List.mem_of_mem_drop hx)
      have w7:(cs.drop 1).length<=17592186044416:=(by rw [List.length_drop];omega);refine Zck ?_;refine Z0 ?_;refine tlm ?_;refine tl_bool (d:=73) rfl (sbq ?_) dbq;intro h;refine tlm ?_;refine tv (o_fieldAddr (o:=1) underlying79 rfl rfl sz26 rfl) ?_;refine tv (by first|exact o_load p26 rfl hsqz rfl|exact o_loadC p26 rfl (by assumption)) ?_;refine tl_c rfl (o_call bd31 rfl (keeps12_c (kp:=x.kp) (hr:=by repeat (first|exact hxw.rs|apply Rs.left)) (hm:=rfl) (hml:=by have:=hxw.len;omega))) ?_;rintro _ _ ⟨a77,c77,rfl,hc77,rfl⟩;refine tl_c rfl (o_call bd33 rfl (Crash_c (s:=s6) (keep:=(kpR x.kp x.kp.length)) (hr:=by repeat (first|with_reducible exact rs_sl|apply Rs.left)) (hk:=λ k hk=>by have:=kpR_b k hk;omega) (hm:=kpR_len (Nat.le_refl _)) (hkl:=hxw.len))) ?_;rintro _ _ ⟨e78,s78,hs78,rfl,rfl⟩;obtain ⟨rfl,rfl⟩:=pair_eq (cr_law (k:=(kpR x.kp x.kp.length)) hof6 kpR_b) hs78;refine tv (o_nei rfl rfl) ?_;refine tv (o_pick_t rfl wqz) ?_;refine Zbj ?_;refine tl_bool (d:=82) rfl dbq (sbq ?_);intro h;refine tlm ?_;refine Zbx ?_;refine tl_env (d:=84) (v:= .int .i64 0) (by first|rfl|(show Value.int .i64 (if s6.off=true then 0 else 3)=_;rw [hof6];rfl)) ?_;refine Zds ?_;intro h;refine tc_skip ?_;exact ⟨{ goesS (kpR x.kp x.kp.length) s6 with off:=false },cs.drop 1,cutAddr ca cc 1 2,cc-1,true,w0,rfl,w2,w3,w4,w5,w6,w7,rfl,rfl,rfl,rfl,rfl,drqz⟩
    have hcs0:cs.length=0:=(by have h9:=of_decide_eq_false h;omega);obtain ⟨e6,s6,r1,r2,r3,r4⟩:=whole_com (k:=577*15) hc9 hM38.by_ hsw hso hcl0 hls him (by rw [har0];exact Nat.zero_le 1) (by decide)
    obtain ⟨rfl,hof6,hnew6⟩:e6=0/\ s6.off=false/\ New0 (comK (laysK l 8) (stI xs)) s6:=by
      rcases r4 with h9|⟨_,_,h9,_⟩
      . exact h9
      exact absurd har0 h9
    obtain ⟨q1,q2,q3,q4⟩:=lose_law (c:=(comK (laysK l 8) (stI xs))) (kp:=[]) (k:=577*15) hof6 (by intro z hz;cases hz) r3;have w0:Rec9 (comK (laysK l 8) (stI xs)) { goesS [] s6 with off:=false }:= .inr (q2 (.inr (.inl hnew6)));have w2:=q1;have w3:({ goesS [] s6 with off:=false }:DevS).arms.length<=1:=(by rw [q4];exact r2);have w4:(true:Bool)=true->New0 (comK (laysK l 8) (stI xs)) { goesS [] s6 with off:=false }:=λ _=>q3 hnew6
    have w5:=hr8;have w6:=hcw;have w7:=hcl8;refine Zb ?_;refine tl_c rfl (o_call bd32 rfl (Commit12_c (s:=stD xs) (n:=1024) (f:=(laysK l 8)) (M:=M38) (hM:=hM38) (hn:=by rw [hls]) (hlw:=lw12 hls) (ho:=hso) (hroom:=room_cln hcl0 (by decide)))) ?_;rintro _ _ ⟨e88,b88,s88,M88,hs88,rfl,hM88,rfl⟩;obtain ⟨hq9,rfl⟩:=pair_eq r1 hs88
    simp only [Prod.mk.injEq] at hq9
    obtain ⟨rfl,rfl⟩:=hq9;refine tv (o_eqi rfl rfl) ?_;refine Za ?_;refine tc_seq ?_;refine tc_pre (A':=F*Sl 1 (.slice a21 1024 c21) 1024 (bys (stI xs))*TxA t21 p21 lg21 d21 mb21 128 576 M88 true s6*pt b27 (cl (bkc (laysK l 8)) 76)) (λ g w h=>Dr.sat drqz g w h) ?_;refine tc_pre (A':=F*Sl 1 (.slice a21 1024 c21) 1024 (bys (stI xs))*pt b27 (cl (bkc (laysK l 8)) 76)*Dev d21 s6) (λ g w h=>Dr.sat (A':=F*Sl 1 (.slice a21 1024 c21) 1024 (bys (stI xs))*pt b27 (cl (bkc (laysK l 8)) 76)*Dev d21 s6) drqz g w (h.perm (show _=F*Sl 1 (.slice a21 1024 c21) 1024 (bys (stI xs))*pt b27 (cl (bkc (laysK l 8)) 76)*pt p21 (cl (pocs lg21 d21 (if true then none else some t21)) 110)*pt lg21 (cl (lcs11 d21 128 576) 99)*pt t21 (cl (txcs p21 mb21 true) 113)*pt mb21 (mpo .i64 M88)*Dev d21 s6 by unfold TxA;ac_rfl))) ?_;refine Zbq ?_;refine tv (o_not rfl) ?_;refine tlm ?_;refine tl_bool (d:=92) rfl dbq (sbq ?_);intro h;refine tlm ?_;refine tl_c rfl (o_call bd33 rfl (Crash_c (s:=s6) (keep:=[]) (hr:=rs_none) (hk:=by intro k hk;cases hk) (hm:=rfl) (hkl:=by decide))) ?_;rintro _ _ ⟨e94,s94,hs94,rfl,rfl⟩;obtain ⟨rfl,rfl⟩:=pair_eq (cr_law (k:=[]) hof6 (by intro z hz;cases hz)) hs94;refine Zv ?_;refine tlm ?_;refine tl_bool (d:=97) rfl dbq (sbq ?_);intro h;refine tlm ?_;refine Zbx ?_;refine tl_env (d:=99) (v:= .int .i64 0) (rfl) ?_;refine Zds ?_;intro h;refine tc_skip ?_;exact ⟨{ goesS [] s6 with off:=false },cs,ca,cc,true,w0,rfl,w2,w3,w4,w5,w6,w7,rfl,rfl,rfl,rfl,rfl,drqz⟩
  intro ρ B hI;obtain ⟨s3,cs2,ca2,cc2,dn,hj0,hj1,hj2,hj3,hj4,hj5,hj6,hj7,hE2,hE12,hE7,hE8,hE11,hBA⟩:=hI;refine q_then_n ?_;refine tc_pre hBA.sat ?_;clear hBA;refine te 2 hE2 ?_;refine te 12 hE12 ?_;refine te 7 hE7 ?_;refine te 8 hE8 ?_;refine te 11 hE11 ?_;refine Zi ?_;refine tlm ?_;refine tl_c rfl (o_call bd35 rfl (recovered12_c (R:=F*Sl 1 (.slice a21 1024 c21) 1024 (bys (stI xs))*pt b27 (cl (bkc (laysK l 8)) 76)) (d:=d21) (cc:=cc2) (kr:=577) (ca:=ca2) (s:=s3) (c:=(comK (laysK l 8) (stI xs))) (cs:=cs2) (hA:=rfl) (hc:=hc9) (hs:=hj0) (ho:=hj1) (hg:=hj2.le oqz) (ha:=hj3) (hr:=by repeat (first|exact hj5|apply Rs.left)) (hw:=λ x hx=>((hj6 x hx).left).left) (hml:=hj7))) ?_;rintro _ _ ⟨p104,s104,rfl,hset1,hof1,hgd1,hnew1,rfl⟩;obtain ⟨q1,q2,q3,q4⟩:=lose_law (c:=(comK (laysK l 8) (stI xs))) (kp:=[]) hof1 (by intro z hz;cases hz) hgd1;have hByM:=img_byM q1.wf q1.len;obtain ⟨nw,hnw,hfin⟩:=fin_at hc9 hM38.out (laysK_in l 8) (q2 hset1) hByM.len;obtain ⟨I5,hI5⟩:∃I5,imgS { goesS [] s104 with off:=false }=I5:=⟨_,rfl⟩;rw [hI5] at hfin
  have hI5l:I5.length=1024:=hI5▸hByM.len
  have hdn:dn=true->nw=true:=λ h9=>hnw (q3 (hnew1 (hj4 h9)))
  refine tv (o_eqp underlying69 rfl rfl) ?_;refine Zm ?_;intro h;refine Zc8 ?_;refine tl_c rfl (o_call bd33 rfl (Crash_c (s:=s104) (keep:=[]) (hr:=rs_none) (hk:=by intro k hk;cases hk) (hm:=rfl) (hkl:=by decide))) ?_;rintro _ _ ⟨e107,s107,hs107,rfl,rfl⟩;obtain ⟨rfl,rfl⟩:=pair_eq (cr_law (k:=[]) hof1 (by intro z hz;cases hz)) hs107;refine Zb1 ?_;refine tl_bool (d:=109) rfl dbq (sbq ?_);intro h;refine tlm ?_;refine Zbx ?_;refine tl_env (d:=111) (v:= .int .i64 0) (rfl) ?_;refine Zds ?_;intro h;refine Zbf ?_;refine tl_c rfl (o_call bd36 rfl (image_w I5 q1.len hI5)) ?_;rintro _ _ ⟨a115,c115,rfl,hc115,rfl⟩;refine Za ?_;refine Zy ?_;refine Zy ?_;refine Ze2 ?_;refine tc_loop (λ kk ρ BB=>∃ (i:Nat) (o:Bool) (w:Bool),(i<=1024)/\ (nw=false->o=true)/\ (nw=true->w=true)/\ kk=1024-i/\ ρ 16= .bool o/\ ρ 17= .bool w/\ ρ 18=(vn i)/\ ρ 7= .slice a21 1024 c21/\ ρ 11=(pz b27)/\ ρ 12= .bool dn/\ ρ 15= .slice a115 1024 c115/\ Dr BB (F*Sl 1 (.slice a21 1024 c21) 1024 (bys (stI xs))*pt b27 (cl (bkc (laysK l 8)) 76)*Sl 1 (.slice a115 1024 c115) 1024 (bys I5))) (m:=1024-(0)) ?_ ?_
  . exact ⟨0,true,true,by omega,λ _=>rfl,λ _=>rfl,rfl,rfl,rfl,rfl,rfl,rfl,rfl,rfl,drqz⟩
  intro k ρ B hI;obtain ⟨i,o,w,hp0,hp1,hp2,hkk1,hE16,hE17,hE18,hE7,hE11,hE12,hE15,hBA⟩:=hI;refine tc_pre hBA.sat ?_;clear hBA;refine te 16 hE16 ?_;refine te 17 hE17 ?_;refine te 18 hE18 ?_;refine te 7 hE7 ?_;refine te 11 hE11 ?_;refine te 12 hE12 ?_;refine te 15 hE15 ?_;refine Zi ?_;refine Zt ?_;refine tc_cond rfl (λ h=> ?_) (λ h=> ?_)
  . have hi:i<1024:=(by first|omega|(simp at h;omega));obtain ⟨v,u,hv,hu,hk0,hk1,hk2⟩:=hfin i hi;have hkn:=kd_nn (laysK l 8) i;refine Zbg ?_;refine Zcy ?_;refine tc_cut (λ ρ BB=>ρ 145= .bool false/\ ρ 7= .slice a21 1024 c21/\ ρ 11=(pz b27)/\ ρ 12= .bool dn/\ ρ 15= .slice a115 1024 c115/\ ρ 16= .bool o/\ ρ 17= .bool w/\ ρ 18=(vn i)/\ Dr BB (F*Sl 1 (.slice a21 1024 c21) 1024 (bys (stI xs))*pt b27 (cl (bkc (laysK l 8)) 76)*Sl 1 (.slice a115 1024 c115) 1024 (bys I5))) ?_ ?_
    . skip
      refine tc_regq mo kqz ?_;refine Zft ?_;refine ql_v rfl (o_fieldAddr (o:=0) underlying76 rfl rfl sz73 rfl) ?_;refine ql_v rfl (o_indexAddrAN1 (j:=i) underlying73 sz3 rfl rfl hi) ?_;refine ql_env (d:=124) (v:= .pointer (some ⟨b27,i,none⟩)) (by show Value.pointer (some ⟨b27,0+0+i,none⟩)=_;simp only [Nat.zero_add]) ?_;refine ql_v rfl (o_load p3 rfl hsqz (bkc_kat hi)) ?_;refine ql_v rfl (o_eqi rfl rfl) ?_;refine ql_v rfl (o_move wqz) ?_;refine ql_bool (d:=127) rfl (λ h=> ?_) (λ h=> ?_)
      . have g127:(kdF (laysK l 8) i=0):=(by first|exact of_decide_eq_true h|(have h2:=h;simp at h2;omega)|simpa using h);refine ql_v rfl (o_move wqz) ?_;refine ql_v rfl (o_lss rfl rfl) ?_;refine ql_v rfl (o_move wqz) ?_;refine ql_bool (d:=130) rfl (λ h=> ?_) (sbq ?_)
        . have g130:i<128:=(by first|exact of_decide_eq_true h|(simp at h;omega));have hvu:v=u:=hk0 g127 (.inl g130);refine Zn ?_;refine ql_v rfl (o_pick_t rfl wqz) ?_;refine ql_v rfl (o_pick_t rfl wqz) ?_;refine Z1 ?_;refine ql_v rfl (o_move wqz) ?_;refine ql_v rfl (o_ixP1 (a:=a115) underlying57 sz5 rfl rfl hi (nn_rs (xs:=bys I5) (by repeat (first|with_reducible exact rs_sl|with_reducible exact rs_pt0|exact hi9|apply Rs.left)) (by rw [bys_length];omega))) ?_;refine ql_v rfl (o_ldP (a:=a115) (xs:=bys I5) p5 rfl (by repeat (first|with_reducible exact rs_sl|with_reducible exact rs_pt0|exact hi9|apply Rs.left)) (bys_at9 hv)) ?_;refine ql_env (d:=139) (v:= .int .u8 (u:Nat)) (by show Value.int .u8 ((v:Nat):Int)=_;rw [hvu]) ?_;refine Z1 ?_;refine ql_v rfl (o_ixP1 (a:=a21) underlying57 sz5 rfl rfl hi (nn_rs (xs:=bys (stI xs)) (by repeat (first|with_reducible exact rs_sl|with_reducible exact rs_pt0|exact hi9|apply Rs.left)) (by rw [bys_length];omega))) ?_;refine ql_v rfl (o_ldP (a:=a21) (xs:=bys (stI xs)) p5 rfl (by repeat (first|with_reducible exact rs_sl|with_reducible exact rs_pt0|exact hi9|apply Rs.left)) (bys_at9 hu)) ?_;refine ql_v rfl (o_nei rfl rfl) ?_;refine ql_env (d:=144) (v:= .bool false) (by show Value.bool (decide _)=_;rw [decide_eq_false (by simp)]) ?_;refine Zfe ?_;exact ⟨rfl,rfl,rfl,rfl,rfl,rfl,rfl,rfl,drqz⟩
        intro h;refine ql_v rfl (o_move wqz) ?_;refine ql_v rfl (o_geq rfl rfl) ?_;refine ql_v rfl (o_pick_f rfl wqz) ?_;refine ql_v rfl (o_pick_t rfl wqz) ?_;refine ql_v rfl (o_move wqz) ?_;refine ql_bool (d:=135) rfl (λ h=> ?_) (sbq ?_)
        . have h135:704<=i:=(by first|(have h9:=of_decide_eq_true h;omega)|(simp at h;omega));have hvu:v=u:=hk0 g127 (.inr h135);refine Z1 ?_;refine ql_v rfl (o_ixP1 (a:=a115) underlying57 sz5 rfl rfl hi (nn_rs (xs:=bys I5) (by repeat (first|with_reducible exact rs_sl|with_reducible exact rs_pt0|exact hi9|apply Rs.left)) (by rw [bys_length];omega))) ?_;refine ql_v rfl (o_ldP (a:=a115) (xs:=bys I5) p5 rfl (by repeat (first|with_reducible exact rs_sl|with_reducible exact rs_pt0|exact hi9|apply Rs.left)) (bys_at9 hv)) ?_;refine ql_env (d:=139) (v:= .int .u8 (u:Nat)) (by show Value.int .u8 ((v:Nat):Int)=_;rw [hvu]) ?_;refine Z1 ?_;refine ql_v rfl (o_ixP1 (a:=a21) underlying57 sz5 rfl rfl hi (nn_rs (xs:=bys (stI xs)) (by repeat (first|with_reducible exact rs_sl|with_reducible exact rs_pt0|exact hi9|apply Rs.left)) (by rw [bys_length];omega))) ?_;refine ql_v rfl (o_ldP (a:=a21) (xs:=bys (stI xs)) p5 rfl (by repeat (first|with_reducible exact rs_sl|with_reducible exact rs_pt0|exact hi9|apply Rs.left)) (bys_at9 hu)) ?_;refine ql_v rfl (o_nei rfl rfl) ?_;refine ql_env (d:=144) (v:= .bool false) (by show Value.bool (decide _)=_;rw [decide_eq_false (by simp)]) ?_;refine Zfe ?_;exact ⟨rfl,rfl,rfl,rfl,rfl,rfl,rfl,rfl,drqz⟩
        intro h;refine Zfn ?_;refine Zcs ?_;refine ql_nil ?_;exact ⟨rfl,rfl,rfl,rfl,rfl,rfl,rfl,rfl,drqz⟩
      have g127:¬(kdF (laysK l 8) i=0):=(by first|exact of_decide_eq_false h|(have h2:=h;simp at h2;omega)|simpa using h);refine Zcw ?_;refine Zn ?_;refine ql_v rfl (o_pick_f rfl wqz) ?_;refine ql_v rfl (o_move wqz) ?_;refine Zfn ?_;refine Zcs ?_;refine ql_nil ?_;exact ⟨rfl,rfl,rfl,rfl,rfl,rfl,rfl,rfl,drqz⟩
    intro ρ B hI;obtain ⟨hE145,hE7,hE11,hE12,hE15,hE16,hE17,hE18,hBA⟩:=hI;refine q_then_n ?_;refine tc_pre hBA.sat ?_;clear hBA;refine te 145 hE145 ?_;refine te 7 hE7 ?_;refine te 11 hE11 ?_;refine te 12 hE12 ?_;refine te 15 hE15 ?_;refine te 16 hE16 ?_;refine te 17 hE17 ?_;refine te 18 hE18 ?_;refine tc_cond rfl dbq (sbq ?_);intro h;refine Zc8 ?_;refine tlm ?_;refine Zc3 ?_;refine tv (o_indexAddrAN1 (j:=i) underlying73 sz3 rfl rfl hi) ?_;refine tl_env (d:=150) (v:= .pointer (some ⟨b27,i,none⟩)) (by show Value.pointer (some ⟨b27,0+0+i,none⟩)=_;simp only [Nat.zero_add]) ?_;refine tv (o_load p3 rfl hsqz (bkc_kat hi)) ?_;refine Zd5 ?_;refine tc_cut (λ ρ BB=>∃ (o3:Bool) (w3:Bool),(nw=false->o3=true)/\ (nw=true->w3=true)/\ ρ 16= .bool o3/\ ρ 17= .bool w3/\ ρ 7= .slice a21 1024 c21/\ ρ 11=(pz b27)/\ ρ 12= .bool dn/\ ρ 15= .slice a115 1024 c115/\ ρ 18=(vn i)/\ Dr BB (F*Sl 1 (.slice a21 1024 c21) 1024 (bys (stI xs))*pt b27 (cl (bkc (laysK l 8)) 76)*Sl 1 (.slice a115 1024 c115) 1024 (bys I5))) ?_ ?_
    . skip
      refine tc_cond rfl (λ h=> ?_) (λ h=> ?_)
      . have g152:(kdF (laysK l 8) i=1):=(by first|exact of_decide_eq_true h|(have h2:=h;simp at h2;omega)|simpa using h);refine tc_seq ?_;refine tc_cut (λ ρ BB=>∃ (o2:Bool),(nw=false->o2=true)/\ ρ 16= .bool o2/\ ρ 7= .slice a21 1024 c21/\ ρ 11=(pz b27)/\ ρ 12= .bool dn/\ ρ 15= .slice a115 1024 c115/\ ρ 17= .bool w/\ ρ 18=(vn i)/\ Dr BB (F*Sl 1 (.slice a21 1024 c21) 1024 (bys (stI xs))*pt b27 (cl (bkc (laysK l 8)) 76)*Sl 1 (.slice a115 1024 c115) 1024 (bys I5))) ?_ ?_
        . skip
          refine tc_regq mo kqz ?_;refine Z1 ?_;refine ql_bool (d:=154) rfl (λ h=> ?_) (λ h=> ?_)
          . have ho9:o=true:=(by simpa using h);refine Z1 ?_;refine ql_v rfl (o_ixP1 (a:=a115) underlying57 sz5 rfl rfl hi (nn_rs (xs:=bys I5) (by repeat (first|with_reducible exact rs_sl|with_reducible exact rs_pt0|exact hi9|apply Rs.left)) (by rw [bys_length];omega))) ?_;refine ql_v rfl (o_ldP (a:=a115) (xs:=bys I5) p5 rfl (by repeat (first|with_reducible exact rs_sl|with_reducible exact rs_pt0|exact hi9|apply Rs.left)) (bys_at9 hv)) ?_;refine Z1 ?_;refine ql_v rfl (o_ixP1 (a:=a21) underlying57 sz5 rfl rfl hi (nn_rs (xs:=bys (stI xs)) (by repeat (first|with_reducible exact rs_sl|with_reducible exact rs_pt0|exact hi9|apply Rs.left)) (by rw [bys_length];omega))) ?_;refine ql_v rfl (o_ldP (a:=a21) (xs:=bys (stI xs)) p5 rfl (by repeat (first|with_reducible exact rs_sl|with_reducible exact rs_pt0|exact hi9|apply Rs.left)) (bys_at9 hu)) ?_;refine ql_v rfl (o_eqi rfl rfl) ?_;refine ql_v rfl (o_pick_t rfl wqz) ?_;refine Zcx ?_;exact ⟨_,by intro h9;have h8:=hp1 h9;have h7:=hk1 g152;rw [h9] at h7;simp only [Bool.false_eq_true,if_false] at h7;first|(exact decide_eq_true (by rw [h7]))|(rw [ho9] at h8;exact absurd h8 (by decide)),rfl,rfl,rfl,rfl,rfl,rfl,rfl,drqz⟩
          have ho9:o=false:=(by simpa using h);refine Zfn ?_;refine Zcs ?_;refine Zcx ?_;exact ⟨_,by intro h9;have h8:=hp1 h9;have h7:=hk1 g152;rw [h9] at h7;simp only [Bool.false_eq_true,if_false] at h7;first|(exact decide_eq_true (by rw [h7]))|(rw [ho9] at h8;exact absurd h8 (by decide)),rfl,rfl,rfl,rfl,rfl,rfl,rfl,drqz⟩
        intro ρ B hI;obtain ⟨o2,hja0,hE16,hE7,hE11,hE12,hE15,hE17,hE18,hBA⟩:=hI;refine q_then_n ?_;refine tc_pre hBA.sat ?_;clear hBA;refine te 16 hE16 ?_;refine te 7 hE7 ?_;refine te 11 hE11 ?_;refine te 12 hE12 ?_;refine te 15 hE15 ?_;refine te 17 hE17 ?_;refine te 18 hE18 ?_;refine tc_regq mo kqz ?_;refine Z1 ?_;refine ql_bool (d:=166) rfl (λ h=> ?_) (λ h=> ?_)
        . have hw9:w=true:=(by simpa using h);refine Z1 ?_;refine ql_v rfl (o_ixP1 (a:=a115) underlying57 sz5 rfl rfl hi (nn_rs (xs:=bys I5) (by repeat (first|with_reducible exact rs_sl|with_reducible exact rs_pt0|exact hi9|apply Rs.left)) (by rw [bys_length];omega))) ?_;refine ql_v rfl (o_ldP (a:=a115) (xs:=bys I5) p5 rfl (by repeat (first|with_reducible exact rs_sl|with_reducible exact rs_pt0|exact hi9|apply Rs.left)) (bys_at9 hv)) ?_;refine Zft ?_;refine ql_v rfl (o_fieldAddr (o:=1024) underlying76 rfl rfl sz74 rfl) ?_;refine ql_v rfl (o_indexAddrAN1 (j:=i) underlying74 sz5 rfl rfl hi) ?_;refine ql_env (d:=175) (v:= .pointer (some ⟨b27,1024+i,none⟩)) (by show Value.pointer (some ⟨b27,0+1024+i,none⟩)=_;simp only [Nat.zero_add]) ?_;refine ql_v rfl (o_load p5 rfl hsqz (bkc_bat hi)) ?_;refine ql_v rfl (o_eqi rfl rfl) ?_;refine ql_v rfl (o_pick_t rfl wqz) ?_;refine Zcx ?_;exact ⟨o2,_,by first|exact hja0|exact hp1,by first|exact hp2|(intro h9;have h7:=hk1 g152;rw [h9] at h7;simp only [if_true] at h7;first|exact decide_eq_true (by rw [h7])|(have h8:=hp2 h9;rw [hw9] at h8;exact absurd h8 (by decide))),rfl,rfl,rfl,rfl,rfl,rfl,rfl,drqz⟩
        have hw9:w=false:=(by simpa using h);refine Zfn ?_;refine Zn ?_;refine Zcs ?_;refine Zcx ?_;exact ⟨o2,_,by first|exact hja0|exact hp1,by first|exact hp2|(intro h9;have h7:=hk1 g152;rw [h9] at h7;simp only [if_true] at h7;first|exact decide_eq_true (by rw [h7])|(have h8:=hp2 h9;rw [hw9] at h8;exact absurd h8 (by decide))),rfl,rfl,rfl,rfl,rfl,rfl,rfl,drqz⟩
      have g152:¬(kdF (laysK l 8) i=1):=(by first|exact of_decide_eq_false h|(have h2:=h;simp at h2;omega)|simpa using h);refine tc_skip ?_;exact ⟨o,w,by first|exact hja0|exact hp1,by first|exact hp2|(intro h9;have h7:=hk1 g152;rw [h9] at h7;simp only [if_true] at h7;first|exact decide_eq_true (by rw [h7])|(have h8:=hp2 h9;rw [hw9] at h8;exact absurd h8 (by decide))),rfl,rfl,rfl,rfl,rfl,rfl,rfl,drqz⟩
    intro ρ B hI;obtain ⟨o3,w3,hjc0,hjc1,hE16,hE17,hE7,hE11,hE12,hE15,hE18,hBA⟩:=hI;refine q_then_n ?_;refine tc_pre hBA.sat ?_;clear hBA;refine te 16 hE16 ?_;refine te 17 hE17 ?_;refine te 7 hE7 ?_;refine te 11 hE11 ?_;refine te 12 hE12 ?_;refine te 15 hE15 ?_;refine te 18 hE18 ?_;refine tc_seq ?_;refine tc_cut (λ ρ BB=>ρ 201= .bool false/\ ρ 7= .slice a21 1024 c21/\ ρ 11=(pz b27)/\ ρ 12= .bool dn/\ ρ 15= .slice a115 1024 c115/\ ρ 16= .bool o3/\ ρ 17= .bool w3/\ ρ 18=(vn i)/\ Dr BB (F*Sl 1 (.slice a21 1024 c21) 1024 (bys (stI xs))*pt b27 (cl (bkc (laysK l 8)) 76)*Sl 1 (.slice a115 1024 c115) 1024 (bys I5))) ?_ ?_
    . skip
      refine tc_regq mo kqz ?_;refine Z1 ?_;refine ql_bool (d:=180) rfl (λ h=> ?_) (λ h=> ?_)
      . have hdn1:dn=true:=(by simpa using h);refine Zft ?_;refine ql_v rfl (o_fieldAddr (o:=0) underlying76 rfl rfl sz73 rfl) ?_;refine ql_v rfl (o_indexAddrAN1 (j:=i) underlying73 sz3 rfl rfl hi) ?_;refine ql_env (d:=185) (v:= .pointer (some ⟨b27,i,none⟩)) (by show Value.pointer (some ⟨b27,0+0+i,none⟩)=_;simp only [Nat.zero_add]) ?_;refine ql_v rfl (o_load p3 rfl hsqz (bkc_kat hi)) ?_;refine ql_v rfl (o_gtr rfl rfl) ?_;refine ql_v rfl (o_pick_t rfl wqz) ?_;refine ql_v rfl (o_move wqz) ?_;refine ql_bool (d:=189) rfl (λ h=> ?_) (sbq ?_)
        . have h189:0<kdF (laysK l 8) i:=(by first|exact of_decide_eq_true h|(simp at h;omega));have hvb:=hk2 (hdn hdn1) h189;refine Z1 ?_;refine ql_v rfl (o_ixP1 (a:=a115) underlying57 sz5 rfl rfl hi (nn_rs (xs:=bys I5) (by repeat (first|with_reducible exact rs_sl|with_reducible exact rs_pt0|exact hi9|apply Rs.left)) (by rw [bys_length];omega))) ?_;refine ql_v rfl (o_ldP (a:=a115) (xs:=bys I5) p5 rfl (by repeat (first|with_reducible exact rs_sl|with_reducible exact rs_pt0|exact hi9|apply Rs.left)) (bys_at9 hv)) ?_;refine ql_env (d:=193) (v:= .int .u8 (byF (laysK l 8) i:Nat)) (by show Value.int .u8 ((v:Nat):Int)=_;rw [hvb]) ?_;refine Zft ?_;refine ql_v rfl (o_fieldAddr (o:=1024) underlying76 rfl rfl sz74 rfl) ?_;refine ql_v rfl (o_indexAddrAN1 (j:=i) underlying74 sz5 rfl rfl hi) ?_;refine ql_env (d:=198) (v:= .pointer (some ⟨b27,1024+i,none⟩)) (by show Value.pointer (some ⟨b27,0+1024+i,none⟩)=_;simp only [Nat.zero_add]) ?_;refine ql_v rfl (o_load p5 rfl hsqz (bkc_bat hi)) ?_;refine ql_v rfl (o_nei rfl rfl) ?_;refine ql_env (d:=200) (v:= .bool false) (by show Value.bool (decide _)=_;rw [decide_eq_false (by simp)]) ?_;refine Zfe ?_;exact ⟨rfl,rfl,rfl,rfl,rfl,rfl,rfl,rfl,drqz⟩
        intro h;refine Zfn ?_;refine Zn ?_;refine Zcs ?_;refine ql_nil ?_;exact ⟨rfl,rfl,rfl,rfl,rfl,rfl,rfl,rfl,drqz⟩
      have hdn1:dn=false:=(by simpa using h);refine Zcw ?_;refine Zn ?_;refine Zcs ?_;refine ql_v rfl (o_move wqz) ?_;refine Zfn ?_;refine Zn ?_;refine Zcs ?_;refine ql_nil ?_;exact ⟨rfl,rfl,rfl,rfl,rfl,rfl,rfl,rfl,drqz⟩
    intro ρ B hI;obtain ⟨hE201,hE7,hE11,hE12,hE15,hE16,hE17,hE18,hBA⟩:=hI;refine q_then_n ?_;refine tc_pre hBA.sat ?_;clear hBA;refine te 201 hE201 ?_;refine te 7 hE7 ?_;refine te 11 hE11 ?_;refine te 12 hE12 ?_;refine te 15 hE15 ?_;refine te 16 hE16 ?_;refine te 17 hE17 ?_;refine te 18 hE18 ?_;refine tc_cond rfl dbq (sbq ?_);intro h;refine Zfl ?_;refine Zfj ?_;exact ⟨_,by omega,i+1,_,_,by omega,hjc0,hjc1,rfl,rfl,rfl,rfl,rfl,rfl,rfl,rfl,drqz⟩
  obtain rfl:i=1024:=by first|omega|(simp at h;omega)
  refine Zde ?_;refine tlm ?_;refine tl_bool (d:=203) rfl (sbq ?_) (λ h=> ?_)
  . intro h;refine tlm ?_;refine tv (o_not rfl) ?_;refine Z5 ?_;refine tl_bool (d:=207) rfl (λ h=> ?_) (λ h=> ?_)
    . have hn8:(!dn)=true:=h;refine Zcj ?_;refine tl_env (d:=209) (v:= .bool true) (by first|rfl|(show Value.bool (!dn)=_;rw [hn8])|(show Value.bool w=_;rw [hw8])) ?_;refine Zh ?_;exact ⟨.bool true,F,res1 rfl rfl,Dr.sat drqz,rfl,rfl⟩
    have hw8:w=true:=hp2 (hdn (by simpa using h));refine tlm ?_;refine tv (o_pick_f rfl wqz) ?_;refine tl_env (d:=209) (v:= .bool true) (by first|rfl|(show Value.bool (!dn)=_;rw [hn8])|(show Value.bool w=_;rw [hw8])) ?_;refine Zh ?_;exact ⟨.bool true,F,res1 rfl rfl,Dr.sat drqz,rfl,rfl⟩
  have hw8:w=true:=hp2 (by cases hnw9:nw with|true=>rfl|false=>have h8:=hp1 hnw9;rw [h8] at h;exact absurd h (by decide));refine Zck ?_;refine Z0 ?_;refine tv (o_pick_f rfl wqz) ?_;refine tl_env (d:=209) (v:= .bool true) (by first|rfl|(show Value.bool (!dn)=_;rw [hn8])|(show Value.bool w=_;rw [hw8])) ?_;refine Zh ?_;exact ⟨.bool true,F,res1 rfl rfl,Dr.sat drqz,rfl,rfl⟩
end Go.Vl

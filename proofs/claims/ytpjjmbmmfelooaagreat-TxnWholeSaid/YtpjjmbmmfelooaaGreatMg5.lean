/- What the row rests on, part 5: a calculus of assertions, walks of functions over it, and plain laws. Conditions: none. -/
import Derived.Deep.QuietTactic
import Derived.BigQuiet
import Derived.WalkKit
import Derived.Test.YtpjjmbmmfelooaaGreatProg
import Derived.OrdersHeld
import Derived.Laws.BytesArg
import Derived.RangeFuncRecord
import Derived.TacticsIn
import Derived.Deep.Slices
import Derived.OpenShut
import Derived.ChangeArms
import Derived.SizedLaws
import Derived.ChangeSame
import Derived.Test.YtpjjmbmmfelooaaGreatRows
import Derived.Sort.QuietThIn
import Derived.Maps.RangeRun
import Derived.ScopeJumps
import Derived.Shelf.SortM.SortNone
import Derived.Shelf.SortM.Plain
import Derived.Ground.SlgmProg
import Derived.Shelf.SlIterI.Nil
import Derived.Ground.GgzProg
import Derived.LaidEqlPtr
import Derived.Lib.Builder
import Derived.Lib.UnsafeStr
import Derived.Laws.Strings
import Derived.Test.YtpjjmbmmfelooaaGreatMg4
set_option linter.unusedVariables false
set_option linter.unusedSimpArgs false
set_option maxRecDepth 100000
set_option maxHeartbeats 4000000
namespace Go.Vl
open Go Go.Proofs Go.Proofs.Tryz
theorem three_ofG {α:Type}:∀{l:List α},l.length=3->∃a b c,l=[a,b,c]
  |[a,b,c],_=>⟨a,b,c,rfl⟩
theorem rdb_pu (W:World):Rdb Tryz.prog W 165 (λ cs (x:Pu12)=>cs=x.cells/\ PuW (old W) x):=λ H enc sp hd fu cs d pl h hw=>by
  obtain ⟨hl,hf⟩:=rdb_fields underlying165 h hw;have hc:Tryz.prog.cellsOf 165=3:=(by kernel_rfl);have hci:Tryz.prog.cellsOf 3=1:=(by kernel_rfl);have hcb:Tryz.prog.cellsOf 57=1:=(by kernel_rfl);have hcl:Tryz.prog.cellsOf 4=1:=(by kernel_rfl);rw [hc] at hl
  obtain ⟨q,e0,w0⟩:=hf 0 _ rfl (rdb_int underlying3);obtain ⟨b,a,c,e1,g1,g2,g3,g4⟩:=hf 1 _ rfl (rdb_bys underlying57 underlying5 kqz kqz);obtain ⟨fr,e2⟩:=hf 2 _ rfl (rdb_bool underlying4);obtain ⟨c0,c1,c2,rfl⟩:=three_ofG hl
  simp [hci] at e0
  simp [hcb] at e1
  simp [PBool,hcl] at e2
  subst e0 e1 e2;exact ⟨⟨q,a,c,b,fr⟩,rfl,i64_wf w0,g1,g3,g4⟩
def PPus (A:SP)(cs:List Value)(l:List Pu12):Prop:=∃a c,cs=[.slice a l.length c]/\ l.length<=c/\ Rs A a (ptl l)/\∀x∈l,PuW A x
theorem rdb_pus (W:World):Rdb Tryz.prog W 67 (PPus (old W)):=
  (rdb_slice (k:=3) (b:=40) underlying67 kqz kqz (by decide) (rdb_pu W)).mono λ cs xs ⟨a,cap,Cs,e1,hc,hs,hl,hx,hr⟩=>by
    refine ⟨xs,⟨a,cap,e1,hc, ?_,λ x hx'=> ?_⟩⟩
    . rw [show ptl xs=Cs.flatten from (flatG hl (λ i h h'=>(hx i h h').2.1)).symm];exact hr
    obtain ⟨i,hi,rfl⟩:=List.mem_iff_getElem.1 hx';exact (hx i hi oqz).2.2
structure Lk12 where
  im:List Nat
  pu:List Pu12
  x:Int
  y:Int
def PLk (A:SP)(cs:List Value)(t:Lk12):Prop:=∃v1 v2,cs=[v1,v2,.int .i64 t.x,.int .i64 t.y]/\ PBys A [v1] t.im/\ PPus A [v2] t.pu/\ (-9223372036854775808<=t.x/\ t.x<=9223372036854775807)/\ (-9223372036854775808<=t.y/\ t.y<=9223372036854775807)
theorem rdb_cr (W:World):Rdb Tryz.prog W 79 (λ cs (x:Cr12)=>cs=x.cells/\ CrW (old W) x):=λ H enc sp hd fu cs d pl h hw=>by
  obtain ⟨hl,hf⟩:=rdb_fields underlying79 h hw;have hc:Tryz.prog.cellsOf 79=2:=(by kernel_rfl);have hci:Tryz.prog.cellsOf 3=1:=(by kernel_rfl);have hck:Tryz.prog.cellsOf 26=1:=(by kernel_rfl);rw [hc] at hl
  obtain ⟨af,e0,w0⟩:=hf 0 _ rfl (rdb_int underlying3);obtain ⟨kp,ka,kc,e1,g1,g2,r1,l1⟩:=hf 1 _ rfl (rdb_ints underlying26 underlying3 kqz kqz);obtain ⟨c0,c1,rfl⟩:=two_ofG hl
  simp [hci] at e0
  simp [hck] at e1
  subst e0 e1;exact ⟨⟨af,ka,kc,kp⟩,rfl,i64_wf w0,by show kp.length<=_;omega,g1,r1⟩
def PCrs (A:SP)(cs:List Value)(l:List Cr12):Prop:=∃a c,cs=[.slice a l.length c]/\ l.length<=c/\ l.length<=4398046511104/\ Rs A a (ctl l)/\∀x∈l,CrW A x
theorem rdb_crs (W:World):Rdb Tryz.prog W 68 (PCrs (old W)):=
  (rdb_slice (k:=2) (b:=32) underlying68 kqz kqz (by decide) (rdb_cr W)).mono λ cs xs ⟨a,cap,Cs,e1,hc,hs,hl,hx,hr⟩=>by
    refine ⟨xs,⟨a,cap,e1,hc,reach_n (m:=4398046511104) hs, ?_,λ x hx'=> ?_⟩⟩
    . rw [show ctl xs=Cs.flatten from (flatG hl (λ i h h'=>(hx i h h').2.1)).symm];exact hr
    obtain ⟨i,hi,rfl⟩:=List.mem_iff_getElem.1 hx';exact (hx i hi oqz).2.2
theorem TxnWhole_L (F:SP)(v0:Value)(xs:List Nat)(h0:PBys F [v0] xs)(v1:Value)(l:List Pu12)(h1:PPus F [v1] l)(v2:Value)(cs:List Cr12)(h2:PCrs F [v2] cs):Fn Tryz.prog 7 #[v0,v1,v2] F (λ r B=>r= .bool true/\ B=F):=by
  obtain ⟨a,c,e0,_,hs,hr,hb⟩:=h0;obtain ⟨a1,c1,e1,_,hr1,hw1⟩:=h1;obtain ⟨a2,c2,e2,hc2,hl2,hr2,hw2⟩:=h2
  simp only [List.cons.injEq,and_true] at e0 e1 e2
  subst e0 e1 e2;exact TxnWhole_f F hr rfl hb hs hr1 rfl hw1 hr2 hw2 oqz hc2
end Go.Vl

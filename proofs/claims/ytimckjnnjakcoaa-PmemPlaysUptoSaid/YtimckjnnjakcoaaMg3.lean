/- What the row rests on, part 3: a calculus of assertions, walks of functions over it, and plain laws. Conditions: none. -/
import Derived.Deep.QuietTactic
import Derived.BigQuiet
import Derived.WalkKit
import Derived.Test.YtimckjnnjakcoaaProg
import Derived.OrdersHeld
import Derived.Deep.Slices
import Derived.OpenShut
import Derived.ChangeArms
import Derived.SizedLaws
import Derived.ChangeSame
import Derived.Test.YtimckjnnjakcoaaRows
import Derived.Laws.BytesArg
import Derived.RangeFuncRecord
import Derived.TacticsIn
import Derived.Test.YtimckjnnjakcoaaMg2
set_option linter.unusedVariables false
set_option linter.unusedSimpArgs false
namespace Go.Vl
open Go Go.Proofs
/-- A line: where its contents' list lies, where each content lies and its words; the mark. -/
structure RL where
  v : Value
  rows : List (Value × List Nat)
  mark : Int
def RL.l (x : RL) : LineS := ⟨x.rows.map Prod.snd, x.mark⟩
def rcl (x : RL) : List Value := [x.v, .int .i64 x.mark]
theorem rcl_len (l : List RL) : ∀ a ∈ l, (rcl a).length = 2 := fun _ _ => rfl
def rowR (p : Value × List Nat) : SP := SlR 1 p.1 64 (bys (lb p.2))
def rlR (x : RL) : SP := Sl 1 x.v x.rows.length (x.rows.map Prod.fst) * Bs rowR x.rows
def rdcs (lv : Value) (s : DevS) (av : Value) : List Value := [.int .i64 ((s.ls.length * 64 : Nat) : Int), lv, .int .i64 s.ops, av, .int .i64 s.cnt, .bool s.off]
/-- The device, its parts told. -/
def RDevC (r : Nat) (lv : Value) (rls : List RL) (av : Value) (kvs : List Value) (s : DevS) : SP :=
  pt r (cl (rdcs lv s av) 91) * Sl 2 lv s.ls.length (rls.flatMap rcl) * Bs rlR rls * ArmsR av kvs s.arms
/-- The device. -/
def RDev (r : Nat) (s : DevS) : SP := fun h => WfD s ∧ ∃ lv rls av kvs, rls.map RL.l = s.ls ∧ kvs.length = s.arms.length ∧ RDevC r lv rls av kvs s h
theorem rdev_iff {r : Nat} {s : DevS} {R : SP} {g : Gh} {w : World} : sat g w (R * RDev r s) ↔ WfD s ∧ ∃ lv rls av kvs, rls.map RL.l = s.ls ∧ kvs.length = s.arms.length ∧ sat g w (R * RDevC r lv rls av kvs s) := by
  constructor
  · intro hs
    obtain ⟨_, ⟨x, y, hd, rfl, ha, hw, lv, rls, av, kvs, h1, h2, h3⟩, hx⟩ := hs.hp
    exact ⟨hw, lv, rls, av, kvs, h1, h2, hs.os, hs.tape, hs.out, _, ⟨x, y, hd, rfl, ha, h3⟩, hx⟩
  · rintro ⟨hw, lv, rls, av, kvs, h1, h2, hs⟩
    exact hs.mono fun h ⟨x, y, hd, e, ha, hb⟩ => ⟨x, y, hd, e, ha, hw, lv, rls, av, kvs, h1, h2, hb⟩
section
variable {P : Program} {n : Nat} {Q : Post} {ρ : Env} {r : Nat} {s : DevS} {R : SP}
theorem tc_rdev {c : Code} (h : WfD s → ∀ lv rls av kvs, rls.map RL.l = s.ls → kvs.length = s.arms.length → TC P n c Q ρ (R * RDevC r lv rls av kvs s)) : TC P n c Q ρ (R * RDev r s) := fun g a w ha hs => by
  obtain ⟨hw, lv, rls, av, kvs, h1, h2, hs'⟩ := rdev_iff.1 hs
  exact h hw lv rls av kvs h1 h2 g a w ha hs'
end
theorem rdev_back {r : Nat} {s : DevS} {R : SP} {lv av : Value} {rls : List RL} {kvs : List Value} (hw : WfD s) (h1 : rls.map RL.l = s.ls) (h2 : kvs.length = s.arms.length) : ∀ g w, sat g w (R * RDevC r lv rls av kvs s) → sat g w (R * RDev r s) :=
  fun g w hs => rdev_iff.2 ⟨hw, lv, rls, av, kvs, h1, h2, hs⟩
section
variable {r : Nat} {s : DevS} {R F : SP} {lv av : Value} {rls : List RL} {kvs : List Value}
theorem rdevC_r : Has (F * RDevC r lv rls av kvs s) r (cl (rdcs lv s av) 91) := by
  rw [show F * RDevC r lv rls av kvs s = F * Sl 2 lv s.ls.length (rls.flatMap rcl) * Bs rlR rls * ArmsR av kvs s.arms * pt r (cl (rdcs lv s av) 91) by unfold RDevC; ac_rfl]
  exact has_here
theorem rdevC_upd (o c : Int) (f : Bool) : Upd (F * RDevC r lv rls av kvs s) r (cl (rdcs lv s av) 91) (cl (rdcs lv { s with ops := o, cnt := c, off := f } av) 91) (F * RDevC r lv rls av kvs { s with ops := o, cnt := c, off := f }) := by
  have e : ∀ t : DevS, F * RDevC r lv rls av kvs t = F * Sl 2 lv t.ls.length (rls.flatMap rcl) * Bs rlR rls * ArmsR av kvs t.arms * pt r (cl (rdcs lv t av) 91) := fun t => by unfold RDevC; ac_rfl
  rw [e, e]; exact upd_here
/-- What is read of the device. -/
structure RdevR (A : SP) (r : Nat) (lv : Value) (rls : List RL) (av : Value) (s : DevS) : Prop where
  wf : WfD s
  len : rls.length = s.ls.length
  at_ : ∀ i (h : i < rls.length) (h' : i < s.ls.length), rls[i].l = s.ls[i]
  d : Rs A (some ⟨r, 0, none⟩) (rdcs lv s av)
  lv : ∃ b o c, lv = .slice (some ⟨b, o, none⟩) s.ls.length c ∧ s.ls.length ≤ c ∧ Rs A (some ⟨b, o, none⟩) (rls.flatMap rcl)
  all : ∀ i (h : i < rls.length), ∃ b o c, rls[i].v = .slice (some ⟨b, o, none⟩) rls[i].rows.length c ∧ rls[i].rows.length ≤ c ∧ Rs A (some ⟨b, o, none⟩) (rls[i].rows.map Prod.fst)
  row : ∀ i (h : i < rls.length) j (h' : j < rls[i].rows.length), ∃ b o c, rls[i].rows[j].1 = .slice (some ⟨b, o, none⟩) 64 c ∧ 64 ≤ c ∧ Rs A (some ⟨b, o, none⟩) (bys (lb rls[i].rows[j].2))
theorem rs_in {A X R : SP} {a : Option Addr} {xs : List Value} (e : A = R * X) (h : Rs (R * X) a xs) : Rs A a xs := e ▸ h
theorem lb_len {s : List Nat} (h : s.length = 8) : (lb s).length = 64 := by rw [lb_length, h]
theorem rdevR_of (hw : WfD s) (h1 : rls.map RL.l = s.ls) {g : Gh} {w : World} (hs : sat g w (F * RDevC r lv rls av kvs s)) : RdevR (F * RDevC r lv rls av kvs s) r lv rls av s := by
  have hlen : rls.length = s.ls.length := by rw [← h1, List.length_map]
  have hat : ∀ i (h : i < rls.length) (h' : i < s.ls.length), rls[i].l = s.ls[i] := fun i h h' => by
    have : (rls.map RL.l)[i]? = some rls[i].l := by simp [h]
    rw [h1, List.getElem?_eq_getElem h'] at this
    exact (Option.some.inj this).symm
  have hrne : ∀ i (h : i < rls.length), 0 < rls[i].rows.length := fun i h => by
    have hl := hw.line _ (List.getElem_mem (show i < s.ls.length by omega))
    rw [← hat i h (by omega)] at hl
    have := List.length_pos_iff.2 hl.ne
    simpa [RL.l] using this
  refine ⟨hw, hlen, hat, ?_, ?_, ?_, ?_⟩
  · refine rs_in (R := F * Sl 2 lv s.ls.length (rls.flatMap rcl) * Bs rlR rls * ArmsR av kvs s.arms) (X := pt r (cl (rdcs lv s av) 91)) (by unfold RDevC; ac_rfl) rs_pt0
  · have e : F * RDevC r lv rls av kvs s = F * pt r (cl (rdcs lv s av) 91) * Bs rlR rls * ArmsR av kvs s.arms * Sl 2 lv s.ls.length (rls.flatMap rcl) := by unfold RDevC; ac_rfl
    have hpos := hw.pos
    obtain ⟨a, c, e1, e2, e3, e4⟩ := sl_have' e hs
    obtain ⟨b, o, rfl, hc⟩ := e4.some (by rw [e3]; omega)
    exact ⟨b, o, c, e1, e2, rs_rd (rd_cells hc)⟩
  · intro i h
    obtain ⟨R, hR, _⟩ := bs_get (f := rlR) h
    have e : F * RDevC r lv rls av kvs s = F * pt r (cl (rdcs lv s av) 91) * Sl 2 lv s.ls.length (rls.flatMap rcl) * R * Bs rowR rls[i].rows * ArmsR av kvs s.arms * Sl 1 rls[i].v rls[i].rows.length (rls[i].rows.map Prod.fst) := by unfold RDevC; rw [hR]; unfold rlR; ac_rfl
    have hpos := hrne i h
    obtain ⟨a, c, e1, e2, e3, e4⟩ := sl_have' e hs
    obtain ⟨b, o, rfl, hc⟩ := e4.some (by rw [e3]; omega)
    exact ⟨b, o, c, e1, e2, rs_rd (rd_cells hc)⟩
  · intro i h j h'
    obtain ⟨R, hR, _⟩ := bs_get (f := rlR) h
    obtain ⟨R', hR', _⟩ := bs_get (f := rowR) h'
    have e : F * RDevC r lv rls av kvs s = F * pt r (cl (rdcs lv s av) 91) * Sl 2 lv s.ls.length (rls.flatMap rcl) * R * Sl 1 rls[i].v rls[i].rows.length (rls[i].rows.map Prod.fst) * R' * ArmsR av kvs s.arms * SlR 1 rls[i].rows[j].1 64 (bys (lb rls[i].rows[j].2)) := by
      unfold RDevC; rw [hR]; unfold rlR; rw [hR']; unfold rowR; ac_rfl
    obtain ⟨a, c, e1, e2, e3, e4⟩ := slR_have e hs
    obtain ⟨b, o, rfl, hc⟩ := e4.some (by rw [e3]; omega)
    exact ⟨b, o, c, e1, e2, rs_rd (rd_cells hc)⟩
theorem RdevR.left {A X : SP} (h : RdevR A r lv rls av s) : RdevR (A * X) r lv rls av s :=
  ⟨h.wf, h.len, h.at_, h.d.left, let ⟨b, o, c, e1, e2, e3⟩ := h.lv; ⟨b, o, c, e1, e2, e3.left⟩, fun i hi => let ⟨b, o, c, e1, e2, e3⟩ := h.all i hi; ⟨b, o, c, e1, e2, e3.left⟩,
    fun i hi j hj => let ⟨b, o, c, e1, e2, e3⟩ := h.row i hi j hj; ⟨b, o, c, e1, e2, e3.left⟩⟩
theorem RdevR.rows {A : SP} (h : RdevR A r lv rls av s) {i : Nat} (hi : i < rls.length) (hi' : i < s.ls.length) : rls[i].rows.length = s.ls[i].st.length := by
  rw [← h.at_ i hi hi']; simp [RL.l]
theorem RdevR.snd {A : SP} (h : RdevR A r lv rls av s) {i j : Nat} (hi : i < rls.length) (hi' : i < s.ls.length) (hj : j < rls[i].rows.length) : rls[i].rows[j].2 = s.ls[i].st[j]'(by rw [← h.rows hi hi']; exact hj) := by
  have := h.at_ i hi hi'
  have e : s.ls[i].st = rls[i].rows.map Prod.snd := by rw [← this]; rfl
  simp only [e, List.getElem_map]
theorem RdevR.mark {A : SP} (h : RdevR A r lv rls av s) {i : Nat} (hi : i < rls.length) (hi' : i < s.ls.length) : rls[i].mark = s.ls[i].mark := by rw [← h.at_ i hi hi']; rfl
theorem RdevR.lvR {A : SP} {b o n c : Nat} (h : RdevR A r (.slice (some ⟨b, o, none⟩) n c) rls av s) : Rs A (some ⟨b, o, none⟩) (rls.flatMap rcl) := by
  obtain ⟨b', o', c', e, _, h1⟩ := h.lv
  simp only [Value.slice.injEq, Option.some.injEq, Addr.mk.injEq] at e
  obtain ⟨⟨rfl, rfl, _⟩, _, _⟩ := e
  exact h1
/-- One line, told by itself. -/
theorem rdevC_focus {i n : Nat} (hi : i < rls.length) (hn : s.ls.length = n) : ∃ R, (∀ F, F * RDevC r lv rls av kvs s = F * R * pt r (cl (rdcs lv s av) 91) * Bs rowR rls[i].rows * Sl 1 rls[i].v rls[i].rows.length (rls[i].rows.map Prod.fst) * Sl 2 lv n (rls.flatMap rcl)) ∧
    ∀ F x (t : DevS), t.ls.length = n → t.arms = s.arms → t.ops = s.ops → t.cnt = s.cnt → t.off = s.off → F * R * pt r (cl (rdcs lv s av) 91) * Bs rowR x.rows * Sl 1 x.v x.rows.length (x.rows.map Prod.fst) * Sl 2 lv n ((rls.set i x).flatMap rcl) = F * RDevC r lv (rls.set i x) av kvs t := by
  subst hn
  obtain ⟨R, hR, hS⟩ := bs_get (f := rlR) hi
  refine ⟨R * ArmsR av kvs s.arms, fun F => ?_, fun F x t ht ha h1 h2 h3 => ?_⟩
  · unfold RDevC; rw [hR]; unfold rlR; ac_rfl
  · have e : rdcs lv s av = rdcs lv t av := by unfold rdcs; rw [ht, h1, h2, h3]
    unfold RDevC; rw [hS, ha, ht, e]; unfold rlR; ac_rfl
/-- A line that keeps one content. -/
theorem rdev_line1 {X S2 : SP} {rows : List (Value × List Nat)} {k b : Nat} {v : Value} {xs : List Value} {n : Nat} {E : TypeId} (hk : k < rows.length) {g : Gh} {w : World} (h : sat g w (X * Bs rowR rows * Sl 1 v n xs * S2 * pt b (cl [rows[k].1] E))) :
    sat g w (X * Bs rowR [rows[k]] * Sl 1 (.slice (some ⟨b, 0, none⟩) 1 1) 1 [rows[k].1] * S2) := by
  obtain ⟨R', hR', _⟩ := bs_get (f := rowR) hk
  have h1 : sat g w (X * S2 * rowR rows[k] * pt b (cl [rows[k].1] E) * (R' * Sl 1 v n xs)) := h.perm (by rw [hR']; ac_rfl)
  exact (sl_new (k := 1) (n := 1) (cap := 1) (xs := [rows[k].1]) h1.left (by decide) (Nat.le_refl _) rfl).perm (by rw [bs_cons, bs_nil, emp_star]; ac_rfl)
theorem rdevC_arms {g : Gh} {w : World} (hs : sat g w (F * RDevC r lv rls av kvs s)) :
    ∃ a cap, av = .slice a s.arms.length cap ∧ s.arms.length ≤ cap ∧ (acs kvs s.arms).length = s.arms.length * 2 ∧ Rd (F * RDevC r lv rls av kvs s) a (acs kvs s.arms) :=
  sl_have' (R := F * KeepsR kvs s.arms * Bs rlR rls * Sl 2 lv s.ls.length (rls.flatMap rcl) * pt r (cl (rdcs lv s av) 91)) (by unfold RDevC ArmsR; ac_rfl) hs
theorem rdevC_arms' {n c : Nat} {a : Option Addr} {g : Gh} {w : World} (hs : sat g w (F * RDevC r lv rls (.slice a n c) kvs s)) : Rd (F * RDevC r lv rls (.slice a n c) kvs s) a (acs kvs s.arms) := by
  obtain ⟨a', cap, e, _, _, h⟩ := rdevC_arms hs
  simp only [Value.slice.injEq] at e
  rw [← e.1] at h; exact h
theorem rdevC_eq : F * RDevC r lv rls av kvs s = F * ArmsR av kvs s.arms * Bs rlR rls * Sl 2 lv s.ls.length (rls.flatMap rcl) * pt r (cl (rdcs lv s av) 91) := by unfold RDevC; ac_rfl
theorem rdevC_cut {b o n c : Nat} {kv : Value} {s' : DevS} {arm : Int × List Int} {ar : List (Int × List Int)} (hn : n = s.arms.length) (ha : s.arms = arm :: ar) (hls : s'.ls = s.ls) (har : s'.arms = ar) {g : Gh} {w : World}
    (hs : sat g w (F * ArmsR (.slice (some ⟨b, o, none⟩) n c) (kv :: kvs) s.arms * Bs rlR rls * Sl 2 lv s.ls.length (rls.flatMap rcl) * pt r (cl (rdcs lv s' (.slice (cutAddr (some ⟨b, o, none⟩) c 1 2) (n - 1) (c - 1))) 91))) :
    sat g w (F * SlR 1 kv arm.2.length (ints arm.2) * RDevC r lv rls (.slice (cutAddr (some ⟨b, o, none⟩) c 1 2) (n - 1) (c - 1)) kvs s') := by
  unfold ArmsR at hs
  rw [ha] at hs
  have h1 := sl_cut (l := 1) (hs.perm (B := F * (KeepsR kvs ar * SlR 1 kv arm.2.length (ints arm.2)) * Bs rlR rls * Sl 2 lv s.ls.length (rls.flatMap rcl) * pt r (cl (rdcs lv s' (.slice (cutAddr (some ⟨b, o, none⟩) c 1 2) (n - 1) (c - 1))) 91) * Sl 2 (.slice (some ⟨b, o, none⟩) n c) n (acs (kv :: kvs) (arm :: ar)))
    (by rw [hn, ha]; simp only [KeepsR]; ac_rfl)) (by rw [hn, ha]; simp)
  refine h1.perm ?_
  unfold RDevC ArmsR
  rw [hls, har]
  have : n - 1 = ar.length := by rw [hn, ha]; simp
  rw [this]
  simp only [acs, Nat.one_mul, List.drop_succ_cons, List.drop_zero]
  ac_rfl
end
theorem goP_wf {keep : List Int} {i : Nat} {s : DevS} (h : WfD s) : WfD { s with ls := goPart keep i s.ls } := ⟨by simp only [goPart_length]; exact h.pos, by simp only [goPart_length]; exact h.top, goPart_wf h.line, h.arms, h.after, h.keeps⟩
end Go.Vl

set_option linter.unusedVariables false
set_option linter.unusedSimpArgs false
namespace Go.Vl
open Go Go.Proofs
theorem fn_rdevR0 {P : Program} {f : FuncId} {args : Array Value} {F : SP} {r : Nat} {s : DevS} {q : Value → Prop}
    (h : ∀ A lv rls av, RdevR A r lv rls av s → Fn P f args A fun v B => q v ∧ A = B) :
    Fn P f args (F * RDev r s) fun v B => q v ∧ F * RDev r s = B := fun g w hs => by
  obtain ⟨hw, lv, rls, av, kvs, h1, h2, hs'⟩ := rdev_iff.1 hs
  refine (h _ lv rls av (rdevR_of hw h1 hs') g w hs').mono ?_; rintro e w' ⟨v, B, e1, ⟨hq, rfl⟩, hB⟩; exact ⟨v, F * RDev r s, e1, ⟨hq, rfl⟩, rdev_back hw h1 h2 _ _ hB⟩
theorem fn_rdevR {P : Program} {f : FuncId} {args : Array Value} {F : SP} {r : Nat} {s : DevS} {q : Value → SP → Prop}
    (h : ∀ A lv rls av, RdevR A r lv rls av s → Fn P f args A fun v B => ∃ X, B = A * X ∧ q v X) :
    Fn P f args (F * RDev r s) fun v B => ∃ X, B = F * RDev r s * X ∧ q v X := fun g w hs => by
  obtain ⟨hw, lv, rls, av, kvs, h1, h2, hs'⟩ := rdev_iff.1 hs
  refine (h _ lv rls av (rdevR_of hw h1 hs') g w hs').mono ?_; rintro e w' ⟨v, B, e1, ⟨X, rfl, hq⟩, hB⟩; refine ⟨v, _, e1, ⟨X, rfl, hq⟩, ?_⟩
  have h3 := rdev_back (R := F * X) hw h1 h2 _ _ (hB.perm (star_swap _ _ _))
  exact h3.perm (star_swap _ _ _)
theorem rcl_at0 {l : List RL} {i : Nat} (h : i < l.length) : (l.flatMap rcl)[i * 2 + 0]? = some l[i].v := by rw [fm_atj (rcl_len l) h (by decide) rfl]; rfl
theorem rcl_at1 {l : List RL} {i : Nat} (h : i < l.length) : (l.flatMap rcl)[i * 2 + 1]? = some (.int .i64 l[i].mark) := by rw [fm_atj (rcl_len l) h (by decide) rfl]; rfl
section
variable {A : SP} {r : Nat} {lv av : Value} {rls : List RL} {s : DevS}
theorem RdevR.pos (h : RdevR A r lv rls av s) {i : Nat} (hi : i < rls.length) : 0 < rls[i].rows.length := by
  have h' : i < s.ls.length := by rw [← h.len]; exact hi
  rw [h.rows hi h']
  exact List.length_pos_iff.2 (h.wf.line _ (List.getElem_mem h')).ne
theorem RdevR.small (h : RdevR A r lv rls av s) {i : Nat} (hi : i < rls.length) : rls[i].rows.length ≤ 2199023255552 := by
  have h' : i < s.ls.length := by rw [← h.len]; exact hi
  rw [h.rows hi h']
  exact (h.wf.line _ (List.getElem_mem h')).small
/-- The content that is seen. -/
theorem RdevR.top (h : RdevR A r lv rls av s) {i : Nat} (hi : i < rls.length) (hi' : i < s.ls.length) : ∃ b o c, (rls[i].rows.map Prod.fst)[rls[i].rows.length - 1]? = some (.slice (some ⟨b, o, none⟩) 64 c) ∧ 64 ≤ c ∧ Rs A (some ⟨b, o, none⟩) (bys (lb (seenL s.ls[i]))) := by
  have hp := h.pos hi
  obtain ⟨b, o, c, e1, e2, e3⟩ := h.row i hi (rls[i].rows.length - 1) (by omega)
  refine ⟨b, o, c, ?_, e2, ?_⟩
  · rw [List.getElem?_map, List.getElem?_eq_getElem (by omega)]; simp [e1]
  · rw [h.snd hi hi' (by omega)] at e3
    have e : seenL s.ls[i] = s.ls[i].st[rls[i].rows.length - 1]'(by rw [← h.rows hi hi']; omega) := by
      unfold seenL; simp only [← h.rows hi hi']
      simp [List.getD, show rls[i].rows.length - 1 < s.ls[i].st.length by rw [← h.rows hi hi']; omega]
    rw [e]; exact e3
theorem RdevR.allC (h : RdevR A r lv rls av s) {i : Nat} (hi : i < rls.length) : ∃ b o c, (rls.flatMap rcl)[i * 2 + 0]? = some (.slice (some ⟨b, o, none⟩) rls[i].rows.length c) ∧ rls[i].rows.length ≤ c ∧ Rs A (some ⟨b, o, none⟩) (rls[i].rows.map Prod.fst) := by
  obtain ⟨b, o, c, e1, e2, e3⟩ := h.all i hi
  exact ⟨b, o, c, by rw [rcl_at0 hi, e1], e2, e3⟩
end
attribute [local irreducible] Sl pt ro imgS
theorem rfits_c {A : SP} {p : Int} :
    Fn Try.prog 125 #[.int .i64 p] (A) (fun r B => r = .bool (fitsB p) ∧ A = B) := by
  refine fn_enterW (args := [.int .i64 p]) Try.func125 rfl Try.ntmps125 (by simp) ?_; refine sr ?_; refine tla ?_; refine nq ?_; refine sr ?_; refine tlm ?_; refine tv (o_geq rfl rfl) ?_; refine tlm ?_; refine tl_bool (d := 5) rfl (fun h => ?_) (fun h => ?_)
  · try simp only [lv1, lv2, lv3, lv4, lv5, lv6, Bool.not_true, Bool.not_false] at h
    refine tlm ?_; refine tv (o_leq rfl rfl) ?_; refine tv (o_pick_t rfl (by conv => lhs; whnf)) ?_; refine tlm ?_; refine tl_bool (d := 9) rfl (fun h => ?_) (fun h => ?_)
    · try simp only [lv1, lv2, lv3, lv4, lv5, lv6, Bool.not_true, Bool.not_false] at h
      refine tlm ?_; refine tv (by first | exact o_remI rfl rfl (by omega) | exact o_rem rfl rfl (by omega)) ?_; refine tv (o_eqi rfl rfl) ?_; refine tv (o_pick_t rfl (by conv => lhs; whnf)) ?_; refine tla ?_; refine nq ?_; refine tc_ret ?_; refine ⟨.bool (decide (p % 64 = 0)), _, res1 rfl rfl, ?_, by unfold fitsB; congr 1; rw [decide_eq_decide]; omega, rfl⟩; exact Dr.sat (by repeat (first | with_reducible exact dr_refl | apply dr_keep | apply dr_drop))
    · try simp only [lv1, lv2, lv3, lv4, lv5, lv6, Bool.not_true, Bool.not_false] at h
      refine tk ?_; refine tk ?_; refine tk ?_; refine tv (o_pick_f rfl (by conv => lhs; whnf)) ?_; refine tla ?_; refine nq ?_; refine tc_ret ?_; refine ⟨.bool false, _, res1 rfl rfl, ?_, by unfold fitsB; rw [decide_eq_false (by omega)], rfl⟩; exact Dr.sat (by repeat (first | with_reducible exact dr_refl | apply dr_keep | apply dr_drop))
  · try simp only [lv1, lv2, lv3, lv4, lv5, lv6, Bool.not_true, Bool.not_false] at h
    refine tk ?_; refine tk ?_; refine tv (o_pick_f rfl (by conv => lhs; whnf)) ?_; refine tlm ?_; refine tk ?_; refine tk ?_; refine tk ?_; refine tv (o_pick_f rfl (by conv => lhs; whnf)) ?_; refine tla ?_; refine nq ?_; refine tc_ret ?_; refine ⟨.bool false, _, res1 rfl rfl, ?_, by unfold fitsB; rw [decide_eq_false (by omega)], rfl⟩; exact Dr.sat (by repeat (first | with_reducible exact dr_refl | apply dr_keep | apply dr_drop))
theorem rSize_f (A : SP) {r : Nat} {lv av : Value} {rls : List RL} {s : DevS} (hR : RdevR A r lv rls av s) :
    Fn Try.prog 141 #[.pointer (some ⟨r, 0, none⟩)] (A) (fun v B => v = .int .i64 ((s.ls.length * 64 : Nat) : Int) ∧ A = B) := by
  refine fn_enterW (args := [.pointer (some ⟨r, 0, none⟩)]) Try.func141 rfl Try.ntmps141 (by simp) ?_; refine sr ?_; refine tla ?_; refine nq ?_; refine sr ?_; refine tlm ?_; refine tv (o_nilCheck rfl) ?_; refine tv (o_fieldAddr (o := 0) Try.underlying91 rfl rfl sz3 rfl) ?_; refine tv (o_ldP (a := some ⟨r, 0, none⟩) (i := 0) p3 rfl (by repeat (first | exact hR.d | apply Rs.left)) rfl) ?_; refine tla ?_; refine nq ?_; refine tc_ret ?_; refine ⟨_, _, res1 rfl rfl, ?_, rfl, rfl⟩; exact Dr.sat (by repeat (first | with_reducible exact dr_refl | apply dr_keep | apply dr_drop))
theorem rOps_f (A : SP) {r : Nat} {lv av : Value} {rls : List RL} {s : DevS} (hR : RdevR A r lv rls av s) :
    Fn Try.prog 69 #[.pointer (some ⟨r, 0, none⟩)] (A) (fun v B => v = .int .i64 s.ops ∧ A = B) := by
  refine fn_enterW (args := [.pointer (some ⟨r, 0, none⟩)]) Try.func69 rfl Try.ntmps69 (by simp) ?_; refine sr ?_; refine tla ?_; refine nq ?_; refine sr ?_; refine tlm ?_; refine tv (o_nilCheck rfl) ?_; refine tv (o_fieldAddr (o := 2) Try.underlying91 rfl rfl sz3 rfl) ?_; refine tv (o_ldP (a := some ⟨r, 0, none⟩) (i := 2) p3 rfl (by repeat (first | exact hR.d | apply Rs.left)) rfl) ?_; refine tla ?_; refine nq ?_; refine tc_ret ?_; refine ⟨_, _, res1 rfl rfl, ?_, rfl, rfl⟩; exact Dr.sat (by repeat (first | with_reducible exact dr_refl | apply dr_keep | apply dr_drop))
theorem rOff_f (A : SP) {r : Nat} {lv av : Value} {rls : List RL} {s : DevS} (hR : RdevR A r lv rls av s) :
    Fn Try.prog 79 #[.pointer (some ⟨r, 0, none⟩)] (A) (fun v B => v = .bool s.off ∧ A = B) := by
  refine fn_enterW (args := [.pointer (some ⟨r, 0, none⟩)]) Try.func79 rfl Try.ntmps79 (by simp) ?_; refine sr ?_; refine tla ?_; refine nq ?_; refine sr ?_; refine tlm ?_; refine tv (o_nilCheck rfl) ?_; refine tv (o_fieldAddr (o := 5) Try.underlying91 rfl rfl sz4 rfl) ?_; refine tv (o_ldP (a := some ⟨r, 0, none⟩) (i := 5) p4 rfl (by repeat (first | exact hR.d | apply Rs.left)) rfl) ?_; refine tla ?_; refine nq ?_; refine tc_ret ?_; refine ⟨_, _, res1 rfl rfl, ?_, rfl, rfl⟩; exact Dr.sat (by repeat (first | with_reducible exact dr_refl | apply dr_keep | apply dr_drop))
theorem rinside_f (A : SP) {r : Nat} {lv av : Value} {rls : List RL} {s : DevS} (hR : RdevR A r lv rls av s) {p m : Int} (hp : -9223372036854775808 ≤ p ∧ p ≤ 9223372036854775807) (hm : -9223372036854775808 ≤ m ∧ m ≤ 9223372036854775807) :
    Fn Try.prog 136 #[.pointer (some ⟨r, 0, none⟩), .int .i64 p, .int .i64 m] (A) (fun v B => v = .bool (decide (rdy s.ls.length false p m = 0)) ∧ A = B) := by
  refine fn_enterW (args := [.pointer (some ⟨r, 0, none⟩), .int .i64 p, .int .i64 m]) Try.func136 rfl Try.ntmps136 (by simp) ?_
  have htop := hR.wf.top
  refine sr ?_; refine tla ?_; refine nq ?_; refine sr ?_; refine tlm ?_; refine tv (o_geq rfl rfl) ?_; refine tlm ?_; refine tl_bool (d := 9) rfl (fun h => ?_) (fun h => ?_)
  · try simp only [lv1, lv2, lv3, lv4, lv5, lv6, Bool.not_true, Bool.not_false] at h
    refine tlm ?_; refine tv (o_geq rfl rfl) ?_; refine tv (o_pick_t rfl (by conv => lhs; whnf)) ?_; refine tlm ?_; refine tl_bool (d := 13) rfl (fun h => ?_) (fun h => ?_)
    · try simp only [lv1, lv2, lv3, lv4, lv5, lv6, Bool.not_true, Bool.not_false] at h
      refine tlm ?_; refine tlm ?_; refine tv (o_nilCheck rfl) ?_; refine tv (o_fieldAddr (o := 0) Try.underlying91 rfl rfl sz3 rfl) ?_; refine tv (o_ldP (a := some ⟨r, 0, none⟩) (i := 0) p3 rfl (by repeat (first | exact hR.d | apply Rs.left)) rfl) ?_; refine tv (o_leq rfl rfl) ?_; refine tv (o_pick_t rfl (by conv => lhs; whnf)) ?_; refine tlm ?_; refine tl_bool (d := 21) rfl (fun h => ?_) (fun h => ?_)
      · try simp only [lv1, lv2, lv3, lv4, lv5, lv6, Bool.not_true, Bool.not_false] at h
        refine tlm ?_; refine tlm ?_; refine tv (o_nilCheck rfl) ?_; refine tv (o_fieldAddr (o := 0) Try.underlying91 rfl rfl sz3 rfl) ?_; refine tv (o_ldP (a := some ⟨r, 0, none⟩) (i := 0) p3 rfl (by repeat (first | exact hR.d | apply Rs.left)) rfl) ?_; refine tlm ?_; refine tv (by first | exact o_subI rfl rfl (by omega) | exact o_sub rfl rfl) ?_; refine tv (o_leq rfl rfl) ?_; refine tv (o_pick_t rfl (by conv => lhs; whnf)) ?_; refine tla ?_; refine nq ?_; refine tc_ret ?_; refine ⟨.bool (decide (m ≤ ((s.ls.length * 64 : Nat) : Int) - p)), _, res1 rfl rfl, ?_, (by congr 1; rw [decide_eq_decide]; unfold rdy; rw [if_neg (by decide)]; split <;> constructor <;> intro _ <;> omega), rfl⟩; exact Dr.sat (by repeat (first | with_reducible exact dr_refl | apply dr_keep | apply dr_drop))
      · try simp only [lv1, lv2, lv3, lv4, lv5, lv6, Bool.not_true, Bool.not_false] at h
        refine tk ?_; refine tk ?_; refine tk ?_; refine tk ?_; refine tk ?_; refine tk ?_; refine tk ?_; refine tk ?_; refine tv (o_pick_f rfl (by conv => lhs; whnf)) ?_; refine tla ?_; refine nq ?_; refine tc_ret ?_; refine ⟨.bool false, _, res1 rfl rfl, ?_, (by rw [decide_eq_false]; unfold rdy; rw [if_neg (by decide), if_pos (by omega)]; decide), rfl⟩; exact Dr.sat (by repeat (first | with_reducible exact dr_refl | apply dr_keep | apply dr_drop))
    · try simp only [lv1, lv2, lv3, lv4, lv5, lv6, Bool.not_true, Bool.not_false] at h
      refine tk ?_; refine tk ?_; refine tk ?_; refine tk ?_; refine tk ?_; refine tk ?_; refine tv (o_pick_f rfl (by conv => lhs; whnf)) ?_; refine tlm ?_; refine tk ?_; refine tk ?_; refine tk ?_; refine tk ?_; refine tk ?_; refine tk ?_; refine tk ?_; refine tk ?_; refine tv (o_pick_f rfl (by conv => lhs; whnf)) ?_; refine tla ?_; refine nq ?_; refine tc_ret ?_; refine ⟨.bool false, _, res1 rfl rfl, ?_, (by rw [decide_eq_false]; unfold rdy; rw [if_neg (by decide), if_pos (by omega)]; decide), rfl⟩; exact Dr.sat (by repeat (first | with_reducible exact dr_refl | apply dr_keep | apply dr_drop))
  · try simp only [lv1, lv2, lv3, lv4, lv5, lv6, Bool.not_true, Bool.not_false] at h
    refine tk ?_; refine tk ?_; refine tv (o_pick_f rfl (by conv => lhs; whnf)) ?_; refine tlm ?_; refine tk ?_; refine tk ?_; refine tk ?_; refine tk ?_; refine tk ?_; refine tk ?_; refine tv (o_pick_f rfl (by conv => lhs; whnf)) ?_; refine tlm ?_; refine tk ?_; refine tk ?_; refine tk ?_; refine tk ?_; refine tk ?_; refine tk ?_; refine tk ?_; refine tk ?_; refine tv (o_pick_f rfl (by conv => lhs; whnf)) ?_; refine tla ?_; refine nq ?_; refine tc_ret ?_; refine ⟨.bool false, _, res1 rfl rfl, ?_, (by rw [decide_eq_false]; unfold rdy; rw [if_neg (by decide), if_pos (by omega)]; decide), rfl⟩; exact Dr.sat (by repeat (first | with_reducible exact dr_refl | apply dr_keep | apply dr_drop))
theorem rbelow_c {A : SP} {a : Option Addr} {c m : Nat} {xs : List Int} (hr : Rs A a (ints xs) := by repeat (first | assumption | with_reducible exact rs_sl | with_reducible exact rs_pt0 | exact rs_none | apply Rs.left)) (hm : xs.length = m := by first | assumption | rfl) (hml : m ≤ 17592186044416 := by omega) :
    Fn Try.prog 128 #[.slice a m c] (A) (fun r B => r = .bool (lowB xs) ∧ A = B) := by
  refine fn_enterW (args := [.slice a m c]) Try.func128 rfl Try.ntmps128 (by simp) ?_; refine sr ?_; refine tla ?_; refine nq ?_; refine tc_seq ?_; refine sr ?_; refine tla ?_; refine nq ?_; refine tc_block ?_; refine tc_loop (fun kk ρ BB => ∃ (i : Nat), (i ≤ m) ∧ (∀ k (h : k < xs.length), k < i → 0 ≤ xs[k]) ∧ kk = m - i ∧ ρ 3 = .int .i64 (i : Nat) ∧ ρ 0 = .slice a m c ∧ BB = A) (m := m - (0)) ?_ ?_
  · exact ⟨0, by omega, fun k h h0 => by omega, rfl, rfl, rfl, rfl⟩
  · intro k ρ B hI
    obtain ⟨i, hp0, hp1, hkk1, hE3, hE0, hBA⟩ := hI
    obtain rfl := hBA.symm
    refine tc_env (d := 3) hE3 ?_; refine tc_env (d := 0) hE0 ?_
    clear hE3 hE0
    refine tc_seq ?_; refine sr ?_; refine tlm ?_; refine tlm ?_; refine tv (o_len Try.underlying37 rfl) ?_; refine tv (o_lss rfl rfl) ?_; refine nq ?_; refine tc_cond rfl (fun h => ?_) (fun h => ?_)
    · have hi : i < xs.length := by simp at h; omega
      refine tc_skip ?_; refine q_then_n ?_; refine tc_seq ?_; refine tc_block ?_; refine sr ?_; refine tlm ?_; refine tlm ?_; refine tv (o_ixP1 Try.underlying37 sz3 rfl rfl (by first | omega | (simp only [bys_length, ints_length, wds_length, bos_length, List.length_append, List.length_take, List.length_drop, List.length_singleton]; omega)) (by repeat (first | exact nn_some | with_reducible exact nn_sl (by decide) | exact nn_rs (by assumption) (fun _ => by first | omega | (simp only [bys_length, ints_length, wds_length, bos_length, List.length_append, List.length_take, List.length_drop, List.length_singleton]; omega)) | apply Nn.left))) ?_; refine tv (o_ldP p3 rfl (by repeat (first | assumption | with_reducible exact rs_sl | with_reducible exact rs_pt0 | exact rs_none | apply Rs.left)) (by first | assumption | exact bys_at (by omega) | exact ints_at (by omega) | exact wds_at (by omega) | exact bos_at (by omega) | rfl)) ?_; refine tv (o_lss rfl rfl) ?_; refine nq ?_; refine tc_cond rfl (fun h => ?_) (fun h => ?_)
      · try simp only [lv1, lv2, lv3, lv4, lv5, lv6, Bool.not_true, Bool.not_false] at h
        refine sr ?_; refine tla ?_; refine nq ?_; refine tc_ret ?_; refine q_block_r (q_then_r (q_then_r (q_block_r (q_then_r ?_)))); refine ⟨.bool true, _, res1 rfl rfl, ?_, (by rw [show lowB xs = true from List.any_eq_true.2 ⟨_, List.getElem_mem hi, decide_eq_true h⟩]), rfl⟩; exact Dr.sat (by repeat (first | with_reducible exact dr_refl | apply dr_keep | apply dr_drop))
      · try simp only [lv1, lv2, lv3, lv4, lv5, lv6, Bool.not_true, Bool.not_false] at h
        refine tc_skip ?_; refine q_block_n (q_then_n ?_); refine tc_reg ?_; refine tlm ?_; refine tv (by first | exact o_addI rfl rfl (by omega) | exact o_add rfl rfl) ?_; refine tla ?_; refine nq ?_; exact ⟨_, by omega, i + 1, by omega, fun k hk h0 => by rcases Nat.lt_succ_iff_lt_or_eq.1 h0 with h1 | rfl; exact hp1 k hk h1; (simp at h; omega), rfl, rfl, rfl, rfl⟩
    · try simp only [lv1, lv2, lv3, lv4, lv5, lv6, Bool.not_true, Bool.not_false] at h
      refine tc_exit ?_; refine q_then_e (q_then_e (q_block_x (q_then_n ?_))); refine sr ?_; refine tla ?_; refine nq ?_; refine tc_ret ?_
      obtain rfl : i = xs.length := by omega
      have e : lowB xs = false := by rw [lowB, List.any_eq_false]; intro x hx; obtain ⟨k, hk, rfl⟩ := List.mem_iff_getElem.1 hx; have := hp1 k hk hk; simp; omega
      exact ⟨.bool false, A, res1 rfl rfl, Dr.sat (by repeat (first | with_reducible exact dr_refl | apply dr_keep | apply dr_drop)), by rw [e], rfl⟩
theorem rseen_f (A : SP) {r : Nat} {lv av : Value} {rls : List RL} {s : DevS} (hR : RdevR A r lv rls av s) {i b o c : Nat} (hi : i < rls.length) (ht : (rls[i].rows.map Prod.fst)[rls[i].rows.length - 1]? = some (.slice (some ⟨b, o, none⟩) 64 c)) :
    Fn Try.prog 127 #[.pointer (some ⟨r, 0, none⟩), .int .i64 (i : Nat)] (A) (fun v B => v = .slice (some ⟨b, o, none⟩) 64 c ∧ A = B) := by
  refine fn_enterW (args := [.pointer (some ⟨r, 0, none⟩), .int .i64 (i : Nat)]) Try.func127 rfl Try.ntmps127 (by simp) ?_
  obtain ⟨bl, ol, cl_, rfl, hlc, hlr⟩ := hR.lv
  obtain ⟨ba, oa, ca, g1, hca, har⟩ := hR.allC hi
  have hlen := hR.len
  have hpos := hR.pos hi
  have hsm := hR.small hi
  refine sr ?_; refine tla ?_; refine nq ?_; refine sr ?_; refine tlm ?_; refine tv (o_nilCheck rfl) ?_; refine tv (o_fieldAddr (o := 1) Try.underlying91 rfl rfl sz89 rfl) ?_; refine tv (o_ldP (a := some ⟨r, 0, none⟩) (i := 1) p89 rfl (by repeat (first | exact hR.d | apply Rs.left)) rfl) ?_; refine tlm ?_; refine tv (o_ixP Try.underlying89 sz176 rfl rfl (by first | omega | (simp only [bys_length, ints_length, wds_length, bos_length, List.length_append, List.length_take, List.length_drop, List.length_singleton]; omega)) (by repeat (first | exact nn_some | with_reducible exact nn_sl (by decide) | exact nn_rs (by assumption) (fun _ => by first | omega | (simp only [bys_length, ints_length, wds_length, bos_length, List.length_append, List.length_take, List.length_drop, List.length_singleton]; omega)) | apply Nn.left))) ?_; refine tv (o_faP (m := 0) (o := 0) Try.underlying176 rfl rfl sz33 rfl (by repeat (first | exact nn_some | with_reducible exact nn_sl (by decide) | exact nn_rs (by assumption) (fun _ => by first | omega | (simp only [bys_length, ints_length, wds_length, bos_length, List.length_append, List.length_take, List.length_drop, List.length_singleton]; omega)) | apply Nn.left))) ?_; refine tv (o_ldP p33 rfl (by repeat (first | assumption | with_reducible exact rs_sl | with_reducible exact rs_pt0 | exact rs_none | apply Rs.left)) (by first | assumption | exact bys_at (by omega) | exact ints_at (by omega) | exact wds_at (by omega) | exact bos_at (by omega) | rfl)) ?_
  refine tl_env (d := 13) (v := .slice (some ⟨ba, oa, none⟩) rls[i].rows.length ca) (rfl) ?_; refine tla ?_; refine nq ?_; refine sr ?_; refine tlm ?_; refine tlm ?_; refine tv (o_len Try.underlying33 rfl) ?_; refine tv (by first | exact o_subI rfl rfl (by omega) | exact o_sub rfl rfl) ?_; refine tl_env (d := 17) (v := .int .i64 ((rls[i].rows.length - 1 : Nat) : Int)) (by show Value.int .i64 _ = _; congr 1; omega) ?_; refine tv (o_ixP1 Try.underlying33 sz28 rfl rfl (by omega) nn_some) ?_; refine tv (o_ldP p28 rfl har ht) ?_; refine tla ?_; refine nq ?_; refine tc_ret ?_; refine ⟨_, _, res1 rfl rfl, ?_, rfl, rfl⟩; exact Dr.sat (by repeat (first | with_reducible exact dr_refl | apply dr_keep | apply dr_drop))
end Go.Vl

set_option linter.unusedVariables false
set_option linter.unusedSimpArgs false
namespace Go.Vl
open Go Go.Proofs
attribute [local irreducible] Sl pt ro imgS
theorem rgoes_f (F : SP) {r c : Nat} {s : DevS} {a : Option Addr} {keep : List Int} (hr : Rs F a (ints keep)) (hk : ∀ k ∈ keep, 0 ≤ k ∧ k ≤ 9223372036854775807) (hkl : keep.length ≤ 17592186044416) :
    Fn Try.prog 129 #[.pointer (some ⟨r, 0, none⟩), .slice a keep.length c] (F * RDev r s) (fun v B => v = .tuple #[] ∧ B = F * RDev r (goesS keep s)) := by
  refine fn_enterW (args := [.pointer (some ⟨r, 0, none⟩), .slice a keep.length c]) Try.func129 rfl Try.ntmps129 (by simp) ?_; refine tc_rdev fun hw lv rls av kvs hmap hkv => ?_
  have hpos := hw.pos
  have htop := hw.top
  refine tc_have (fun _ _ h => rdevR_of hw hmap h) fun hR0 => ?_
  obtain ⟨bl, ol, cl_, rfl, hlc, _⟩ := hR0.lv
  refine tc_seq ?_; refine sr ?_; refine tla ?_; refine nq ?_; refine tc_block ?_; refine tc_loop (fun kk ρ BB => ∃ (i : Nat) (rls1 : List RL), (i ≤ s.ls.length) ∧ (rls1.map RL.l = goPart keep i s.ls) ∧ kk = s.ls.length - i ∧ ρ 4 = .int .i64 (i : Nat) ∧ ρ 0 = .pointer (some ⟨r, 0, none⟩) ∧ ρ 1 = .slice a keep.length c ∧ BB = F * RDevC r (.slice (some ⟨bl, ol, none⟩) s.ls.length cl_) rls1 av kvs { s with ls := goPart keep i s.ls }) (m := s.ls.length - (0)) ?_ ?_
  · exact ⟨0, rls, by omega, by rw [goPart_zero]; exact hmap, rfl, rfl, rfl, rfl, by rw [goPart_zero]⟩
  · intro k ρ B hI
    obtain ⟨i, rls1, hp0, hp1, hkk1, hE4, hE0, hE1, rfl⟩ := hI
    refine tc_env (d := 4) hE4 ?_; refine tc_env (d := 0) hE0 ?_; refine tc_env (d := 1) hE1 ?_
    clear hE4 hE0 hE1
    refine tc_seq ?_; refine sr ?_; refine tlm ?_; refine tlm ?_; refine tv (o_nilCheck rfl) ?_; refine tv (o_fieldAddr (o := 1) Try.underlying91 rfl rfl sz89 rfl) ?_; refine tv (o_load p89 rfl rdevC_r rfl) ?_; refine tv (o_len Try.underlying89 rfl) ?_; refine tv (o_lss rfl rfl) ?_; refine nq ?_; refine tc_cond rfl (fun h => ?_) (fun h => ?_)
    · have hi : i < s.ls.length := by simp at h; omega
      have hgl : (goPart keep i s.ls).length = s.ls.length := goPart_length _ _ _
      refine tc_have (fun _ _ h => rdevR_of (goP_wf hw) hp1 h) fun hR => ?_
      have hir : i < rls1.length := by rw [hR.len, hgl]; exact hi
      obtain ⟨ba, oa, ca, g1, hca, har⟩ := hR.allC hir
      have hll := hR.lvR
      have hsm := hR.small hir
      have hps := hR.pos hir
      have hkl2 := kOf_lt (keep := keep) (i := i) hps
      obtain ⟨br, orr, cr, hrow, hcr, hrr⟩ := hR.row i hir _ hkl2
      refine tc_skip ?_; refine q_then_n ?_; refine tc_seq ?_; refine tc_block ?_; refine sr ?_; refine tla ?_; refine nq ?_; refine tc_seq ?_; refine sr ?_; refine tlm ?_; refine tlm ?_; refine tv (o_len Try.underlying37 rfl) ?_; refine tv (o_lss rfl rfl) ?_; refine nq ?_; refine tc_cut (fun ρ BB => ρ 5 = .int .i64 ((kOf keep i rls1[i].rows.length : Nat) : Int) ∧ ρ 0 = .pointer (some ⟨r, 0, none⟩) ∧ ρ 1 = .slice a keep.length c ∧ ρ 4 = .int .i64 (i : Nat) ∧ BB = F * RDevC r (.slice (some ⟨bl, ol, none⟩) s.ls.length cl_) rls1 av kvs { s with ls := goPart keep i s.ls }) ?_ ?_
      · skip
        refine tc_cond rfl (fun h => ?_) (fun h => ?_)
        · try simp only [lv1, lv2, lv3, lv4, lv5, lv6, Bool.not_true, Bool.not_false] at h
          refine tc_regq mo (by kernel_rfl) ?_; refine ql_v rfl (o_move (by conv => lhs; whnf)) ?_; refine ql_v rfl (o_move (by conv => lhs; whnf)) ?_; refine ql_v rfl (o_ixP1 Try.underlying37 sz3 rfl rfl (by first | omega | (simp only [bys_length, ints_length, wds_length, bos_length, List.length_append, List.length_take, List.length_drop, List.length_singleton]; omega)) (by repeat (first | exact nn_some | with_reducible exact nn_sl (by decide) | exact nn_rs (by assumption) (fun _ => by first | omega | (simp only [bys_length, ints_length, wds_length, bos_length, List.length_append, List.length_take, List.length_drop, List.length_singleton]; omega)) | apply Nn.left))) ?_; refine ql_v rfl (o_ldP p3 rfl hr.left (ints_at (by omega))) ?_; refine ql_v rfl (o_move (by conv => lhs; whnf)) ?_; refine ql_v rfl (o_nilCheck rfl) ?_; refine ql_v rfl (o_fieldAddr (o := 1) Try.underlying91 rfl rfl sz89 rfl) ?_; refine ql_v rfl (o_ldP (a := some ⟨r, 0, none⟩) (i := 1) p89 rfl hR.d rfl) ?_; refine ql_v rfl (o_move (by conv => lhs; whnf)) ?_; refine ql_v rfl (o_ixP Try.underlying89 sz176 rfl rfl (by first | omega | (simp only [bys_length, ints_length, wds_length, bos_length, List.length_append, List.length_take, List.length_drop, List.length_singleton]; omega)) (by repeat (first | exact nn_some | with_reducible exact nn_sl (by decide) | exact nn_rs (by assumption) (fun _ => by first | omega | (simp only [bys_length, ints_length, wds_length, bos_length, List.length_append, List.length_take, List.length_drop, List.length_singleton]; omega)) | apply Nn.left))) ?_
          refine ql_v rfl (o_faP (m := 0) (o := 0) Try.underlying176 rfl rfl sz33 rfl (by repeat (first | exact nn_some | with_reducible exact nn_sl (by decide) | exact nn_rs (by assumption) (fun _ => by first | omega | (simp only [bys_length, ints_length, wds_length, bos_length, List.length_append, List.length_take, List.length_drop, List.length_singleton]; omega)) | apply Nn.left))) ?_; refine ql_v rfl (o_ldP p33 rfl (by repeat (first | assumption | with_reducible exact rs_sl | with_reducible exact rs_pt0 | exact rs_none | apply Rs.left)) (by first | assumption | exact bys_at (by omega) | exact ints_at (by omega) | exact wds_at (by omega) | exact bos_at (by omega) | rfl)) ?_; refine ql_v rfl (o_len Try.underlying33 rfl) ?_; refine ql_v rfl (o_remI rfl rfl (by have := hk _ (List.getElem_mem (show i < keep.length by omega)); omega)) ?_; refine ql_v rfl (o_assign (by conv => lhs; whnf)) ?_; refine ql_nil ?_; exact ⟨(by first | (show Value.int .i64 (keep[i]'(by omega) % _) = _; congr 1; unfold kOf; rw [dif_pos (by omega), Int.toNat_of_nonneg (Int.emod_nonneg _ (by omega))]) | (show Value.int .i64 0 = _; congr 1; unfold kOf; rw [dif_neg (by omega)]; rfl)), rfl, rfl, rfl, rfl⟩
        · try simp only [lv1, lv2, lv3, lv4, lv5, lv6, Bool.not_true, Bool.not_false] at h
          refine tc_skip ?_; exact ⟨(by first | (show Value.int .i64 (keep[i]'(by omega) % _) = _; congr 1; unfold kOf; rw [dif_pos (by omega), Int.toNat_of_nonneg (Int.emod_nonneg _ (by omega))]) | (show Value.int .i64 0 = _; congr 1; unfold kOf; rw [dif_neg (by omega)]; rfl)), rfl, rfl, rfl, rfl⟩
      · intro ρ B hI
        obtain ⟨hE5, hE0, hE1, hE4, rfl⟩ := hI
        refine q_then_n ?_; refine tc_env (d := 5) hE5 ?_; refine tc_env (d := 0) hE0 ?_; refine tc_env (d := 1) hE1 ?_; refine tc_env (d := 4) hE4 ?_
        clear hE5 hE0 hE1 hE4
        obtain ⟨R, hf1, hf2⟩ := rdevC_focus (r := r) (lv := (.slice (some ⟨bl, ol, none⟩) s.ls.length cl_)) (av := av) (kvs := kvs) (s := { s with ls := goPart keep i s.ls }) (n := s.ls.length) hir hgl
        refine tc_eq (hf1 F) ?_
        have hv0 : rls1[i].v = .slice (some ⟨ba, oa, none⟩) rls1[i].rows.length ca := by rw [rcl_at0 hir] at g1; exact Option.some.inj g1
        have hrow2 : (rls1[i].rows.map Prod.fst)[kOf keep i rls1[i].rows.length]? = some rls1[i].rows[kOf keep i rls1[i].rows.length].1 := by rw [List.getElem?_map, List.getElem?_eq_getElem hkl2]; rfl
        rw [hv0]
        refine tc_regh (S := F * R * pt r (cl (rdcs (.slice (some ⟨bl, ol, none⟩) s.ls.length cl_) { s with ls := goPart keep i s.ls } av) 91) * Bs rowR rls1[i].rows * Sl 1 (.slice (some ⟨ba, oa, none⟩) rls1[i].rows.length ca) rls1[i].rows.length (rls1[i].rows.map Prod.fst)) mo (by repeat (first | with_reducible exact dr_refl | apply dr_keep | apply dr_drop)) ?_
        show TH _ _ _ _ _ 20 #[ff,ff,ff,ff,ff,ff,ff,ff,ff,ff,ff,ff,ff,ff,ff,ff,ff,ff,ff,ff] _ _
        refine th_take (i := 0) (listed' := #[tt,ff,ff,ff,ff,ff,ff,ff,ff,ff,ff,ff,ff,ff,ff,ff,ff,ff,ff,ff]) rfl (by kernel_rfl) (by kernel_rfl) (by kernel_rfl) rfl rfl (o_move (by conv => lhs; whnf)) ?_; refine th_take (i := 1) (listed' := #[tt,tt,ff,ff,ff,ff,ff,ff,ff,ff,ff,ff,ff,ff,ff,ff,ff,ff,ff,ff]) rfl (by kernel_rfl) (by kernel_rfl) (by kernel_rfl) rfl rfl (o_nilCheck rfl) ?_; refine th_take (i := 2) (listed' := #[tt,tt,tt,ff,ff,ff,ff,ff,ff,ff,ff,ff,ff,ff,ff,ff,ff,ff,ff,ff]) rfl (by kernel_rfl) (by kernel_rfl) (by kernel_rfl) rfl rfl (o_fieldAddr (o := 1) Try.underlying91 rfl rfl sz89 rfl) ?_; refine th_take (i := 3) (listed' := #[tt,tt,tt,tt,ff,ff,ff,ff,ff,ff,ff,ff,ff,ff,ff,ff,ff,ff,ff,ff]) rfl (by kernel_rfl) (by kernel_rfl) (by kernel_rfl) rfl rfl (by first | exact o_load p89 rfl (by repeat (first | with_reducible exact has_here | with_reducible exact has_pt | apply has_left)) rfl | exact o_loadC p89 rfl (by assumption)) ?_; refine th_take (i := 4) (listed' := #[tt,tt,tt,tt,tt,ff,ff,ff,ff,ff,ff,ff,ff,ff,ff,ff,ff,ff,ff,ff]) rfl (by kernel_rfl) (by kernel_rfl) (by kernel_rfl) rfl rfl (o_move (by conv => lhs; whnf)) ?_; refine th_take (i := 5) (listed' := #[tt,tt,tt,tt,tt,tt,ff,ff,ff,ff,ff,ff,ff,ff,ff,ff,ff,ff,ff,ff]) rfl (by kernel_rfl) (by kernel_rfl) (by kernel_rfl) rfl rfl (o_move (by conv => lhs; whnf)) ?_; refine th_take (i := 6) (listed' := #[tt,tt,tt,tt,tt,tt,tt,ff,ff,ff,ff,ff,ff,ff,ff,ff,ff,ff,ff,ff]) rfl (by kernel_rfl) (by kernel_rfl) (by kernel_rfl) rfl rfl (o_nilCheck rfl) ?_
        refine th_take (i := 7) (listed' := #[tt,tt,tt,tt,tt,tt,tt,tt,ff,ff,ff,ff,ff,ff,ff,ff,ff,ff,ff,ff]) rfl (by kernel_rfl) (by kernel_rfl) (by kernel_rfl) rfl rfl (o_fieldAddr (o := 1) Try.underlying91 rfl rfl sz89 rfl) ?_; refine th_take (i := 8) (listed' := #[tt,tt,tt,tt,tt,tt,tt,tt,tt,ff,ff,ff,ff,ff,ff,ff,ff,ff,ff,ff]) rfl (by kernel_rfl) (by kernel_rfl) (by kernel_rfl) rfl rfl (by first | exact o_load p89 rfl (by repeat (first | with_reducible exact has_here | with_reducible exact has_pt | apply has_left)) rfl | exact o_loadC p89 rfl (by assumption)) ?_; refine th_take (i := 9) (listed' := #[tt,tt,tt,tt,tt,tt,tt,tt,tt,tt,ff,ff,ff,ff,ff,ff,ff,ff,ff,ff]) rfl (by kernel_rfl) (by kernel_rfl) (by kernel_rfl) rfl rfl (o_move (by conv => lhs; whnf)) ?_; refine th_take (i := 10) (listed' := #[tt,tt,tt,tt,tt,tt,tt,tt,tt,tt,tt,ff,ff,ff,ff,ff,ff,ff,ff,ff]) rfl (by kernel_rfl) (by kernel_rfl) (by kernel_rfl) rfl rfl (o_ixP Try.underlying89 sz176 rfl rfl (by first | omega | (simp only [bys_length, ints_length, wds_length, bos_length, List.length_append, List.length_take, List.length_drop, List.length_singleton]; omega)) (by repeat (first | exact nn_some | with_reducible exact nn_sl (by decide) | exact nn_rs (by assumption) (fun _ => by first | omega | (simp only [bys_length, ints_length, wds_length, bos_length, List.length_append, List.length_take, List.length_drop, List.length_singleton]; omega)) | apply Nn.left))) ?_; refine th_take (i := 11) (listed' := #[tt,tt,tt,tt,tt,tt,tt,tt,tt,tt,tt,tt,ff,ff,ff,ff,ff,ff,ff,ff]) rfl (by kernel_rfl) (by kernel_rfl) (by kernel_rfl) rfl rfl (o_faP (m := 0) (o := 0) Try.underlying176 rfl rfl sz33 rfl (by repeat (first | exact nn_some | with_reducible exact nn_sl (by decide) | exact nn_rs (by assumption) (fun _ => by first | omega | (simp only [bys_length, ints_length, wds_length, bos_length, List.length_append, List.length_take, List.length_drop, List.length_singleton]; omega)) | apply Nn.left))) ?_
        refine th_take (i := 13) (listed' := #[tt,tt,tt,tt,tt,tt,tt,tt,tt,tt,tt,tt,ff,tt,ff,ff,ff,ff,ff,ff]) rfl (by kernel_rfl) (by kernel_rfl) (by kernel_rfl) rfl rfl (o_move (by conv => lhs; whnf)) ?_; refine th_one (i := 12) (by kernel_rfl) ?_; refine oh_v (i := 12) (listed' := #[tt,tt,tt,tt,tt,tt,tt,tt,tt,tt,tt,tt,tt,tt,ff,ff,ff,ff,ff,ff]) rfl rfl rfl (o_ldP p33 rfl (by repeat (first | assumption | with_reducible exact rs_sl | with_reducible exact rs_pt0 | exact rs_none | apply Rs.left)) (by first | assumption | exact bys_at (by omega) | exact ints_at (by omega) | exact wds_at (by omega) | exact bos_at (by omega) | rfl)) ?_; refine th_take (i := 14) (listed' := #[tt,tt,tt,tt,tt,tt,tt,tt,tt,tt,tt,tt,tt,tt,tt,ff,ff,ff,ff,ff]) rfl (by kernel_rfl) (by kernel_rfl) (by kernel_rfl) rfl rfl (o_ixP1 Try.underlying33 sz28 rfl rfl (by first | omega | (simp only [bys_length, ints_length, wds_length, bos_length, List.length_append, List.length_take, List.length_drop, List.length_singleton]; omega)) (by repeat (first | exact nn_some | with_reducible exact nn_sl (by decide) | exact nn_rs (by assumption) (fun _ => by first | omega | (simp only [bys_length, ints_length, wds_length, bos_length, List.length_append, List.length_take, List.length_drop, List.length_singleton]; omega)) | apply Nn.left))) ?_; refine th_take (i := 15) (listed' := #[tt,tt,tt,tt,tt,tt,tt,tt,tt,tt,tt,tt,tt,tt,tt,tt,ff,ff,ff,ff]) rfl (by kernel_rfl) (by kernel_rfl) (by kernel_rfl) rfl rfl (o_ldP p28 rfl (by repeat (first | assumption | with_reducible exact rs_sl | with_reducible exact rs_pt0 | exact rs_none | apply Rs.left)) hrow2) ?_
        refine th_one (i := 16) (by kernel_rfl) ?_; refine oh_x (i := 16) (listed' := #[tt,tt,tt,tt,tt,tt,tt,tt,tt,tt,tt,tt,tt,tt,tt,tt,tt,ff,ff,ff]) rfl rfl rfl (o_buildSlice1 Try.underlying33 sz28 z28 rfl (by rw [hrow]; rfl)) ?_; rintro _ _ ⟨b49, rfl, rfl⟩; refine ⟨by repeat (first | with_reducible exact dr_refl | apply dr_keep | apply dr_drop), ?_⟩; refine th_take (i := 17) (listed' := #[tt,tt,tt,tt,tt,tt,tt,tt,tt,tt,tt,tt,tt,tt,tt,tt,tt,tt,ff,ff]) rfl (by kernel_rfl) (by kernel_rfl) (by kernel_rfl) rfl rfl (o_bS (l := [_, _]) (pv_cons (by conv => lhs; whnf) (pv_cons (by conv => lhs; whnf) pv_nil)) Try.underlying176 z176 (pl176 Try.underlying176) rfl) ?_; refine th_take (i := 18) (listed' := #[tt,tt,tt,tt,tt,tt,tt,tt,tt,tt,tt,tt,tt,tt,tt,tt,tt,tt,tt,ff]) rfl (by kernel_rfl) (by kernel_rfl) (by kernel_rfl) rfl rfl (o_ixP Try.underlying89 sz176 rfl rfl (by first | omega | (simp only [bys_length, ints_length, wds_length, bos_length, List.length_append, List.length_take, List.length_drop, List.length_singleton]; omega)) (by repeat (first | exact nn_some | with_reducible exact nn_sl (by decide) | exact nn_rs (by assumption) (fun _ => by first | omega | (simp only [bys_length, ints_length, wds_length, bos_length, List.length_append, List.length_take, List.length_drop, List.length_singleton]; omega)) | apply Nn.left))) ?_; refine th_one (i := 19) (by kernel_rfl) ?_; refine oh_u (i := 19) (listed' := #[tt,tt,tt,tt,tt,tt,tt,tt,tt,tt,tt,tt,tt,tt,tt,tt,tt,tt,tt,tt]) rfl rfl rfl (o_stPN (vs := [.slice (some ⟨b49, 0, none⟩) 1 1, .int .i64 (-1)]) (ys := (rls1.set i ⟨.slice (some ⟨b49, 0, none⟩) 1 1, [rls1[i].rows[kOf keep i rls1[i].rows.length]], -1⟩).flatMap rcl) sz176 rfl rfl rfl rfl (by decide) (by repeat (first | with_reducible exact ct_here | apply ct_left)) (by omega) (fm_spl (k := 2) (f := rcl) (y := ⟨.slice (some ⟨b49, 0, none⟩) 1 1, [rls1[i].rows[kOf keep i rls1[i].rows.length]], -1⟩) (rcl_len _) hir rfl)) (by repeat (first | with_reducible exact dr_refl | apply dr_keep | apply dr_drop)) ?_
        refine th_pre (fun _ _ h => rdev_line1 hkl2 h) ?_
        have hnext : (rls1.set i ⟨.slice (some ⟨b49, 0, none⟩) 1 1, [rls1[i].rows[kOf keep i rls1[i].rows.length]], -1⟩).map RL.l = goPart keep (i + 1) s.ls := by
          rw [List.map_set, hp1, ← goPart_set keep hi]
          congr 1
          unfold goL RL.l
          have e1 := hR.rows hir (by rw [hgl]; exact hi)
          have e2 := hR.snd hir (by rw [hgl]; exact hi) hkl2
          simp only [goPart_at keep hi] at e1 e2
          simp only [e1] at e2
          simp only [List.map_cons, List.map_nil, e1, e2]
          rw [getD_at (by rw [← e1]; exact hkl2)]
        refine th_eq (hf2 F ⟨.slice (some ⟨b49, 0, none⟩) 1 1, [rls1[i].rows[kOf keep i rls1[i].rows.length]], -1⟩ { s with ls := goPart keep (i + 1) s.ls } (goPart_length _ _ _) rfl rfl rfl rfl) ?_; refine th_done (by kernel_rfl) ?_; refine q_block_n (q_then_n ?_); refine tc_reg ?_; refine tlm ?_; refine tv (by first | exact o_addI rfl rfl (by omega) | exact o_add rfl rfl) ?_; refine tla ?_; refine nq ?_; exact ⟨_, by omega, i + 1, rls1.set i ⟨.slice (some ⟨b49, 0, none⟩) 1 1, [rls1[i].rows[kOf keep i rls1[i].rows.length]], -1⟩, by omega, hnext, rfl, rfl, rfl, rfl, rfl⟩
    · obtain rfl : i = s.ls.length := by simp at h; omega
      refine tc_exit ?_; refine q_then_e (q_then_e (q_block_x (q_then_n ?_))); refine tc_reg ?_; refine tlm ?_; refine tv (o_nilCheck rfl) ?_; refine tv (o_fieldAddr (o := 5) Try.underlying91 rfl rfl sz4 rfl) ?_; refine tl_u rfl (o_store sz4 rfl rfl rfl (by show 5 < 6; decide) rfl (rdevC_upd s.ops s.cnt true)) ?_; refine tl_nil ?_; exact ⟨_, _, res0 rfl, rdev_back (goesS_wf hw) hp1 hkv, rfl, rfl⟩
theorem rdone_f (F : SP) {r : Nat} {s : DevS} :
    Fn Try.prog 139 #[.pointer (some ⟨r, 0, none⟩)] (F * RDev r s) (fun v B => v = .int .i64 (doneE s) ∧ B = F * RDev r (doneS s)) := by
  refine fn_enterW (args := [.pointer (some ⟨r, 0, none⟩)]) Try.func139 rfl Try.ntmps139 (by simp) ?_; refine tc_rdev fun hw lv rls av kvs hmap hkv => ?_
  have hpos := hw.pos
  have htop := hw.top
  have har64 := hw.arms
  refine tc_have (fun _ _ h => rdevC_arms h) fun ⟨aa, ca, hav, hca, hal, _⟩ => ?_
  subst hav
  refine sr ?_; refine tla ?_; refine nq ?_; refine sr ?_; refine tlm ?_; refine tlm ?_; refine tv (o_nilCheck rfl) ?_; refine tv (o_fieldAddr (o := 2) Try.underlying91 rfl rfl sz3 rfl) ?_; refine tv (o_load p3 rfl rdevC_r rfl) ?_; refine tv (o_add rfl rfl) ?_; refine tv (o_nilCheck rfl) ?_; refine tv (o_fieldAddr (o := 2) Try.underlying91 rfl rfl sz3 rfl) ?_; refine tl_u rfl (o_store sz3 rfl rfl rfl (by show 2 < 6; decide) rfl (rdevC_upd (wr64 (s.ops + 1)) s.cnt s.off)) ?_; refine nq ?_; refine tc_seq ?_; refine sr ?_; refine tlm ?_; refine tv (o_nilCheck rfl) ?_; refine tv (o_fieldAddr (o := 3) Try.underlying91 rfl rfl sz74 rfl) ?_; refine tv (o_load p74 rfl rdevC_r rfl) ?_; refine tv (o_len Try.underlying74 rfl) ?_; refine tv (o_eqi rfl rfl) ?_; refine nq ?_; refine tc_cond rfl (fun h => ?_) (fun h => ?_)
  · try simp only [lv1, lv2, lv3, lv4, lv5, lv6, Bool.not_true, Bool.not_false] at h
    refine sr ?_; refine tla ?_; refine nq ?_; refine tc_ret ?_; refine q_then_r ?_
    have e : s.arms = [] := List.eq_nil_of_length_eq_zero (by omega)
    have e1 : doneS s = { s with ops := wr64 (s.ops + 1) } := by unfold doneS; rw [e]
    exact ⟨.int .i64 0, _, res1 rfl rfl, rdev_back (s := { s with ops := wr64 (s.ops + 1) }) (by rw [← e1]; exact doneS_wf hw) hmap hkv, by unfold doneE; rw [e], by rw [e1]⟩
  · simp only [decide_eq_false_iff_not] at h
    obtain ⟨arm, ar, har⟩ : ∃ arm ar, s.arms = arm :: ar := by
      cases e : s.arms with
      | nil => rw [e] at h; simp at h
      | cons x y => exact ⟨x, y, rfl⟩
    obtain ⟨kv, kvs, rfl⟩ : ∃ kv kvs', kvs = kv :: kvs' := by
      cases kvs with
      | nil => rw [har] at hkv; simp at hkv
      | cons x y => exact ⟨x, y, rfl⟩
    have hacs : acs (kv :: kvs) s.arms = .int .i64 arm.1 :: kv :: acs kvs ar := by rw [har]; rfl
    have hkp := hw.keeps arm (by rw [har]; simp)
    refine tc_skip ?_; refine q_then_n ?_; refine sr ?_; refine tlm ?_; refine tlm ?_; refine tv (o_nilCheck rfl) ?_; refine tv (o_fieldAddr (o := 4) Try.underlying91 rfl rfl sz3 rfl) ?_; refine tv (o_load p3 rfl rdevC_r rfl) ?_; refine tv (o_add rfl rfl) ?_; refine tv (o_nilCheck rfl) ?_; refine tv (o_fieldAddr (o := 4) Try.underlying91 rfl rfl sz3 rfl) ?_; refine tl_u rfl (o_store sz3 rfl rfl rfl (by show 4 < 6; decide) rfl (rdevC_upd (wr64 (s.ops + 1)) (wr64 (s.cnt + 1)) s.off)) ?_; refine tl_have (fun _ _ h => rdevC_arms' h) fun hrd => ?_
    obtain ⟨b, o, rfl, hcs⟩ := hrd.some (by show 0 < (acs _ s.arms).length; rw [hacs]; simp)
    have g0 := hcs 0 (.int .i64 arm.1) (by show (acs _ s.arms)[0]? = _; rw [hacs]; rfl)
    have g1 := hcs 1 kv (by show (acs _ s.arms)[1]? = _; rw [hacs]; rfl)
    have hlen1 : 1 ≤ s.arms.length := by rw [har]; simp
    refine nq ?_; refine tc_seq ?_; refine tc_seq ?_; refine tc_regq mo (by kernel_rfl) ?_; refine ql_v rfl (o_move (by conv => lhs; whnf)) ?_; refine ql_v rfl (o_nilCheck rfl) ?_; refine ql_v rfl (o_fieldAddr (o := 4) Try.underlying91 rfl rfl sz3 rfl) ?_; refine ql_v rfl (o_load p3 rfl rdevC_r rfl) ?_; refine ql_v rfl (o_move (by conv => lhs; whnf)) ?_; refine ql_v rfl (o_nilCheck rfl) ?_; refine ql_v rfl (o_fieldAddr (o := 3) Try.underlying91 rfl rfl sz74 rfl) ?_; refine ql_v rfl (o_load p74 rfl rdevC_r rfl) ?_; refine ql_v rfl (o_indexAddr Try.underlying74 sz72 rfl rfl (by omega) (by omega)) ?_; refine ql_v rfl (o_fieldAddr (o := 0) Try.underlying72 rfl rfl sz3 rfl) ?_; refine ql_v rfl (o_loadC p3 rfl g0) ?_; refine ql_v rfl (o_lss rfl rfl) ?_; refine ql_nil ?_; refine q_then_n ?_; refine tc_cond rfl (fun h => ?_) (fun h => ?_)
    · try simp only [lv1, lv2, lv3, lv4, lv5, lv6, Bool.not_true, Bool.not_false] at h
      refine sr ?_; refine tla ?_; refine nq ?_; refine tc_ret ?_; refine q_then_r ?_
      have e1 : doneS s = { s with ops := wr64 (s.ops + 1), cnt := wr64 (s.cnt + 1) } := by unfold doneS; rw [har]; simp only []; rw [if_pos h]
      exact ⟨.int .i64 0, _, res1 rfl rfl, rdev_back (s := { s with ops := wr64 (s.ops + 1), cnt := wr64 (s.cnt + 1) }) (by rw [← e1]; exact doneS_wf hw) hmap hkv, by unfold doneE; rw [har]; simp only []; rw [if_pos h], by rw [e1]⟩
    · try simp only [lv1, lv2, lv3, lv4, lv5, lv6, Bool.not_true, Bool.not_false] at h
      refine tc_skip ?_; refine q_then_n ?_; refine sr ?_; refine tlm ?_; refine tv (o_nilCheck rfl) ?_; refine tv (o_fieldAddr (o := 3) Try.underlying91 rfl rfl sz74 rfl) ?_; refine tv (o_load p74 rfl rdevC_r rfl) ?_; refine tv (o_indexAddr Try.underlying74 sz72 rfl rfl (by omega) (by omega)) ?_; refine tv (o_fieldAddr (o := 1) Try.underlying72 rfl rfl sz37 rfl) ?_; refine tv (o_loadC p37 rfl g1) ?_; refine tla ?_; refine nq ?_; refine sr ?_; refine tlm ?_; refine tlm ?_; refine tv (o_nilCheck rfl) ?_; refine tv (o_fieldAddr (o := 3) Try.underlying91 rfl rfl sz74 rfl) ?_; refine tv (o_load p74 rfl rdevC_r rfl) ?_; refine tv (o_slice (l := 1) (h := s.arms.length) Try.underlying74 sz72 rfl (bnd_nat (r := 1) rfl) bnd_none (by omega) (by omega)) ?_; refine tv (o_nilCheck rfl) ?_; refine tv (o_fieldAddr (o := 3) Try.underlying91 rfl rfl sz74 rfl) ?_; refine tl_eq rdevC_eq ?_; refine tl_u rfl (o_store (l' := rdcs lv { s with ops := wr64 (s.ops + 1), cnt := wr64 (s.cnt + 1), arms := ar } (.slice (cutAddr (some ⟨b, o, none⟩) ca 1 2) (s.arms.length - 1) (ca - 1))) sz74 rfl rfl rfl (by show 3 < 6; decide) rfl upd_here) ?_; refine tl_pre (fun _ _ h => rdevC_cut (s := { s with ops := wr64 (s.ops + 1), cnt := wr64 (s.cnt + 1) }) (s' := { s with ops := wr64 (s.ops + 1), cnt := wr64 (s.cnt + 1), arms := ar }) (arm := arm) (ar := ar) rfl har rfl rfl h) ?_
      refine nq ?_; refine sr ?_; refine tlm ?_; refine tv (o_nilCheck rfl) ?_; refine tv (o_fieldAddr (o := 4) Try.underlying91 rfl rfl sz3 rfl) ?_; refine tl_u rfl (o_store sz3 rfl rfl rfl (by show 4 < 6; decide) rfl (rdevC_upd (wr64 (s.ops + 1)) 0 s.off)) ?_; refine tl_have (fun _ _ h => slR_have rfl h.left) fun ⟨ka, kc, hkv2, _, _, hkr⟩ => ?_
      subst hkv2
      have hw2 : WfD { s with ops := wr64 (s.ops + 1), arms := ar, cnt := 0 } := ⟨hw.pos, hw.top, hw.line, by have := hw.arms; rw [har] at this; simp at this ⊢; omega, fun x hx => hw.after x (by rw [har]; simp at hx ⊢; exact .inr hx), fun x hx => hw.keeps x (by rw [har]; simp at hx ⊢; exact .inr hx)⟩
      refine tl_pre (rdev_back (s := { s with ops := wr64 (s.ops + 1), arms := ar, cnt := 0 }) hw2 hmap (by rw [har] at hkv; simpa using hkv)) ?_; refine nq ?_; refine sr ?_; refine tlm ?_; refine tlm ?_; refine tl_c rfl (o_call bd129 rfl (rgoes_f _ (c := kc) (rs_rd hkr) hkp.2 hkp.1)) ?_; rintro _ _ ⟨rfl, rfl⟩; refine nq ?_; refine sr ?_; refine tla ?_; refine nq ?_; refine tc_ret ?_
      have e1 : doneS s = goesS arm.2 { s with ops := wr64 (s.ops + 1), arms := ar, cnt := 0 } := by unfold doneS; rw [har]; simp only []; rw [if_neg h]
      exact ⟨.int .i64 5, _, res1 rfl rfl, fun _ _ h => h.drop2, by unfold doneE; rw [har]; simp only []; rw [if_neg h], by rw [e1]⟩
end Go.Vl

set_option linter.unusedVariables false
set_option linter.unusedSimpArgs false
namespace Go.Vl
open Go Go.Proofs
theorem lb_word {s : List Nat} {r : Nat} (h : r < s.length) (t : List Nat) : (((lb s ++ t).drop (8 * r)).take 8) = le 8 s[r] := by
  induction s generalizing r with
  | nil => simp at h
  | cons x s ih =>
    cases r with
    | zero =>
      show (((le 8 x ++ lb s) ++ t).drop 0).take 8 = le 8 x
      rw [List.drop_zero, List.append_assoc, List.take_append_of_le_length (by rw [le_length]; omega), List.take_of_length_le (by rw [le_length]; omega)]
    | succ r =>
      have e : 8 * (r + 1) = (le 8 x).length + 8 * r := by rw [le_length]; omega
      show (((le 8 x ++ lb s) ++ t).drop _).take 8 = _
      rw [e, List.append_assoc, ← List.drop_drop, List.drop_left]
      exact ih (by simpa using h)
end Go.Vl

set_option linter.unusedVariables false
set_option linter.unusedSimpArgs false
namespace Go.Vl
open Go Go.Proofs
theorem spl_in {α : Type} {l b : List α} {q r k : Nat} (h1 : r + b.length ≤ k) (h2 : q + k ≤ l.length) : spl l q (spl ((l.drop q).take k) r b) = spl l (q + r) b := by
  have h3 : ((l.drop q).take k).length = k := by rw [List.length_take, List.length_drop]; omega
  apply List.ext_getElem?
  intro i
  rw [spl_at (by rw [spl_length (by omega)]; omega), spl_at (by omega), spl_length (by omega), h3]
  by_cases h : q ≤ i ∧ i < q + k
  · rw [if_pos h, spl_at (by omega)]
    by_cases h' : r ≤ i - q ∧ i - q < r + b.length
    · rw [if_pos h', if_pos (by omega)]; congr 1; omega
    · rw [if_neg h', if_neg (by omega), List.getElem?_take, if_pos (by omega), List.getElem?_drop]; congr 1; omega
  · rw [if_neg h, spl_at (by omega), if_neg (by omega)]
theorem spl_app {α : Type} (a l b : List α) {n p q : Nat} (ha : a.length = n) (hq : q = n + p) : spl (a ++ l) q b = a ++ spl l p b := by
  subst ha hq
  unfold spl
  rw [List.take_length_add_append, Nat.add_assoc, List.drop_length_add_append]
  simp only [List.append_assoc]
theorem spl_head {α : Type} (a l b : List α) (h : a.length = b.length) : spl (a ++ l) 0 b = b ++ l := by
  unfold spl
  rw [List.take_zero, List.nil_append, Nat.zero_add, ← h, List.drop_left]
theorem lb_set : ∀ {s : List Nat} {k v : Nat}, k < s.length → lb (s.set k v) = spl (lb s) (8 * k) (le 8 v)
  | x :: s, 0, v, _ => (spl_head (le 8 x) (lb s) (le 8 v) (by rw [le_length, le_length])).symm
  | x :: s, k + 1, v, h => by
    have ih := lb_set (s := s) (k := k) (v := v) (by simpa using h)
    show le 8 x ++ lb (s.set k v) = _
    rw [ih]
    exact (spl_app (le 8 x) (lb s) (le 8 v) (le_length 8 x) (by omega)).symm
/-- How many words bytes touch. -/
def cw (p m : Nat) : Nat := if m = 0 then 0 else (p + m - 1) / 8 - p / 8 + 1
theorem spl_nil {α : Type} (l : List α) (p : Nat) : spl l p [] = l := by simp [spl]
theorem spl_take {l b : List Nat} {p i : Nat} (hi : i < b.length) (hp : p + b.length ≤ l.length) : (spl l p (b.take i)).set (p + i) b[i] = spl l p (b.take (i + 1)) := by
  apply List.ext_getElem?
  intro j
  have h1 : (b.take i).length = i := by rw [List.length_take]; omega
  have h2 : (b.take (i + 1)).length = i + 1 := by rw [List.length_take]; omega
  rw [spl_at (by omega), List.getElem?_set, spl_length (by omega)]
  by_cases hj : p + i = j
  · subst hj
    rw [if_pos rfl, if_pos (by omega), if_pos (by omega), show p + i - p = i by omega, List.getElem?_take, if_pos (by omega), List.getElem?_eq_getElem hi]
  · rw [if_neg hj, spl_at (by omega), h1, h2]
    by_cases h : p ≤ j ∧ j < p + i
    · rw [if_pos h, if_pos (by omega), List.getElem?_take, List.getElem?_take, if_pos (by omega), if_pos (by omega)]
    · rw [if_neg h, if_neg (by omega)]
/-- The image that the statement begins with. -/
def im (n : Nat) : List Nat := (List.range n).map fun i => (i + 1) % 256
theorem lineF_lb {xs : List Nat} (hb : ∀ x ∈ xs, x < 256) {i : Nat} (hi : i * 64 + 64 ≤ xs.length) : lb (seenL (lineF xs i)) = (xs.drop (i * 64)).take 64 := by
  have e : seenL (lineF xs i) = (List.replicate 8 0).mapIdx fun k _ => wordF xs i k := by simp [seenL, lineF]
  rw [e]
  have key : ∀ k, k ≤ 8 → lb (((List.replicate 8 0).mapIdx fun k _ => wordF xs i k).take k) = (xs.drop (i * 64)).take (k * 8) := by
    intro k
    induction k with
    | zero => intro _; simp [lb]
    | succ k ih =>
      intro hk
      rw [lb_take (by simp; omega), ih (by omega)]
      simp only [List.getElem_mapIdx, wordF]
      have h1 := le_nm ((xs.drop (i * 64 + k * 8)).take 8) (fun x hx => hb x (List.mem_of_mem_drop (List.mem_of_mem_take hx)))
      rw [List.length_take, List.length_drop, Nat.min_eq_left (by omega)] at h1
      rw [h1, show (k + 1) * 8 = k * 8 + 8 by omega, List.take_add, List.drop_drop]
  have := key 8 (by omega)
  rwa [List.take_of_length_le (by simp)] at this
theorem room_from {n m : Nat} {xs : List Nat} (h : m ≤ 4194304) : Room m (fromS n xs) := fun l hl => by
  obtain ⟨j, hj, rfl⟩ := List.mem_iff_getElem.1 hl
  simp only [fromS, List.getElem_mapIdx, lineF, List.length_singleton]; omega
end Go.Vl

set_option linter.unusedVariables false
set_option linter.unusedSimpArgs false
namespace Go.Vl
open Go Go.Proofs
/-! ### Structs of ints that are held against each other -/
def intF (P : Program) (f : Field) : Bool := f.name != "_" && plainE P f.type && (match P.underlying f.type with | some (.int _) => true | _ => false)
/-- A struct whose fields are ints, one a cell. -/
def flatI (P : Program) (fs : Array Field) (n : Nat) : Bool := ((fs.toList.map fun f => f.offset) == List.range n) && fs.toList.all (intF P)
section
variable {P : Program} {n : Nat} {ρ : Env} {A : SP} {dst : Option Tmp} {ty : TypeId} {pos : String} {after : Array Edge} {gd : Option (Nat × Bool)}
/-! ### A slice as an array -/
/-! ### 32 bits -/
/-! ### Bytes that may be a string's -/
end
/-- A string of bytes. -/
def sob (xs : List Nat) : ByteArray := ⟨(xs.map fun n => UInt8.ofNat n).toArray⟩
end Go.Vl

set_option linter.unusedVariables false
set_option linter.unusedSimpArgs false
namespace Go.Vl
open Go Go.Proofs
/-! ### The sum's law -/
def crs (r : Nat) : Nat := (r / 2) ^^^ (2197175160 * (r % 2))
def crk : Nat → Nat → Nat
  | 0, r => r
  | k + 1, r => crs (crk k r)
def crL (r : Nat) : List Nat → Nat
  | [] => r
  | x :: xs => crL (crk 8 (r ^^^ x)) xs
def crc (s : Nat) (xs : List Nat) : Nat := crL (s ^^^ 4294967295) xs ^^^ 4294967295
/-- The document's register: the sum's, and what of the byte is not yet in it. -/
def rfk (k c x : Nat) : Nat := crk k c ^^^ x / 2 ^ k
section
variable {P : Program} {n : Nat} {ρ : Env} {A : SP} {dst : Option Tmp} {ty : TypeId} {pos : String} {after : Array Edge} {gd : Option (Nat × Bool)}
end
attribute [local irreducible] crk crL crc Sl pt ro
end Go.Vl

set_option linter.unusedVariables false
set_option linter.unusedSimpArgs false
namespace Go.Vl
open Go Go.Proofs
/-! ### Sums of parts -/
def crcs (ls : List (List Nat)) : Nat := ls.foldl crc 0
attribute [local irreducible] crk crL crc Sl pt ro
theorem Little_c {A : SP} {v n : Nat} (hn : n ≤ 8 := by decide) :
    Fn Try.prog 74 #[.int .u64 (v : Nat), .int .i64 (n : Nat)] (A) (fun r B => ∃ a c, r = .slice a n c ∧ n ≤ c ∧ B = A * Sl 1 (.slice a n c) n (bys (le n v))) := by
  refine fn_enterW (args := [.int .u64 (v : Nat), .int .i64 (n : Nat)]) Try.func74 rfl Try.ntmps74 (by simp) ?_; refine sr ?_; refine tla ?_; refine nq ?_; refine sr ?_; refine tla ?_; refine nq ?_; refine tc_seq ?_; refine sr ?_; refine tla ?_; refine nq ?_; refine tc_block ?_; refine tc_pre (fun _ _ h => sl_nil (k := 1) h) ?_; refine tc_loop (fun kk ρ BB => ∃ (i : Nat) (a5 : Option Addr) (c5 : Nat), (i ≤ n) ∧ kk = n - i ∧ ρ 5 = .slice a5 i c5 ∧ ρ 6 = .int .i64 (i : Nat) ∧ ρ 0 = .int .u64 (v : Nat) ∧ ρ 1 = .int .i64 (n : Nat) ∧ BB = A * Sl 1 (.slice a5 i c5) i (bys (le i v))) (m := n - (0)) ?_ ?_
  · exact ⟨0, none, 0, by omega, rfl, rfl, rfl, rfl, rfl, rfl⟩
  · intro k ρ B hI
    obtain ⟨i, a5, c5, hp0, hkk1, hE5, hE6, hE0, hE1, rfl⟩ := hI
    refine tc_env (d := 5) hE5 ?_; refine tc_env (d := 6) hE6 ?_; refine tc_env (d := 0) hE0 ?_; refine tc_env (d := 1) hE1 ?_
    clear hE5 hE6 hE0 hE1
    refine tc_seq ?_; refine sr ?_; refine tlm ?_; refine tlm ?_; refine tv (o_lss rfl rfl) ?_; refine nq ?_; refine tc_cond rfl (fun h => ?_) (fun h => ?_)
    · try simp only [lv1, lv2, lv3, lv4, lv5, lv6, Bool.not_true, Bool.not_false] at h
      refine tc_skip ?_; refine q_then_n ?_; refine tc_seq ?_; refine tc_block ?_; refine tc_reg ?_; refine tlm ?_; refine tlm ?_; refine tlm ?_; refine tv (by first | exact o_mulI rfl rfl (by omega) | exact o_mul rfl rfl) ?_; refine tl_env (d := 15) (v := .int .i64 ((8 * i : Nat) : Int)) (rfl) ?_; refine tv (o_shrN (b := 8 * i) rfl rfl rfl (by show 8 * i ≤ 64; omega)) ?_; refine tv (by first | exact o_conv8 Try.underlying53 Try.underlying5 rfl | exact o_conv Try.underlying53 Try.underlying5 rfl) ?_; refine tl_env (d := 17) (v := .int .u8 ((v / 256 ^ i % 256 : Nat) : Int)) (congrArg (fun z : Nat => Value.int .u8 ((v / z % 256 : Nat) : Int)) (Nat.pow_mul 2 8 i)) ?_; refine tl_x rfl (o_buildSlice1 Try.underlying28 sz5 z5 (by conv => lhs; whnf) rfl) ?_; rintro _ _ ⟨b18, rfl, rfl⟩; refine tl_x rfl (o_apB Try.underlying28 Try.underlying28 sz5 by5 z5 rfl (by decide) (by decide) rfl rfl rfl (by repeat (first | with_reducible exact ct_here | apply ct_left)) rfl (by first | exact bys_all _ | exact ints_all _ | exact wds_all _ | exact bos_all _ | rfl) (by first | omega | (simp only [bys_length, ints_length, wds_length, bos_length, List.length_append, List.length_take, List.length_drop, List.length_singleton]; omega)) (by first | exact bys_sn _ _ | exact ints_sn _ _ | exact wds_sn _ _ | exact bos_sn _ _ | exact (bys_append _ _).symm | rfl)) ?_; rintro _ _ ⟨a19, c19, rfl, hc19, rfl⟩; refine tla ?_; refine tl_nil ?_
      refine q_block_n (q_then_n ?_); refine tc_reg ?_; refine tlm ?_; refine tv (by first | exact o_addI rfl rfl (by omega) | exact o_add rfl rfl) ?_; refine tla ?_; refine nq ?_; exact ⟨_, by omega, i + 1, _, _, by omega, rfl, rfl, rfl, rfl, rfl, by rw [le_snoc]⟩
    · try simp only [lv1, lv2, lv3, lv4, lv5, lv6, Bool.not_true, Bool.not_false] at h
      refine tc_exit ?_; refine q_then_e (q_then_e (q_block_x (q_then_n ?_))); refine tc_seq ?_; refine tc_have (fun _ _ h => ct_cap (by repeat (first | with_reducible exact ct_here | apply ct_left)) h) fun hc5 => ?_; refine tc_reg ?_; refine tlm ?_; refine tla ?_; refine nq ?_; refine tc_ret ?_
      obtain rfl : i = n := by omega
      exact ⟨_, _, res1 rfl rfl, fun _ _ h => h, a5, c5, rfl, hc5, rfl⟩
end Go.Vl

set_option linter.unusedVariables false
set_option linter.unusedSimpArgs false
namespace Go.Vl
open Go Go.Proofs
theorem row_stW {s : DevS} {p : Nat} {xs : List Nat} (hw : WfD s) (hi : p / 64 < s.ls.length) (hx : xs.length ≤ 8 - p % 8) (hb : ∀ x ∈ xs, x < 256) :
    spl (lb (seenL s.ls[p / 64])) (p % 64) xs = lb ((seenL s.ls[p / 64]).set (p % 64 / 8) (nm (stW p xs s))) := by
  have hwl := hw.line _ (List.getElem_mem hi)
  have h8 := hwl.eight _ (seenL_mem hwl)
  have hs8 := seen8 hwl
  have e8 : le 8 (nm (stW p xs s)) = stW p xs s := by have := le_nm _ (stW_bytes (p := p) (s := s) hb); rw [stW_len] at this; exact this
  rw [lb_set (by omega), e8]
  unfold stW
  rw [seenL_getD hi, List.take_of_length_le hx]
  have e : (seenL s.ls[p / 64]).getD (p % 64 / 8) 0 = (seenL s.ls[p / 64])[p % 64 / 8]'(by omega) := by simp [List.getD, show p % 64 / 8 < (seenL s.ls[p / 64]).length by omega]
  have hw2 := lb_word (s := seenL s.ls[p / 64]) (r := p % 64 / 8) (by omega) []
  rw [List.append_nil] at hw2
  rw [e, ← hw2, spl_in (by omega) (by omega)]
  congr 1; omega
theorem stW_take {p n : Nat} {b : List Nat} {s : DevS} (h : 8 - p % 8 ≤ n) : stW p (b.take n) s = stW p b s := by
  unfold stW; rw [List.take_take, Nat.min_eq_left h]
theorem stW_take' {p n : Nat} {b : List Nat} {s : DevS} (h : b.length ≤ n) : stW p (b.take n) s = stW p b s := by rw [List.take_of_length_le h]
theorem lay_map {rls : List RL} {s : DevS} {p v : Nat} {x : RL} (hmap : rls.map RL.l = s.ls) (hi : p / 64 < s.ls.length) (hx : x.l = layL (p % 64 / 8) v s.ls[p / 64]) : (rls.set (p / 64) x).map RL.l = (layS p v s).ls := by
  unfold layS; rw [onLine_at hi, List.map_set, hmap, hx]
attribute [local irreducible] Sl pt ro imgS
set_option maxRecDepth 20000 in
set_option maxHeartbeats 1000000 in
theorem rword_f (F : SP) {r c m p : Nat} {s : DevS} {a : Option Addr} {xs : List Nat} (hr : Rs F a (bys xs)) (hm : xs.length = m) (hx : m ≤ 8 - p % 8) (hb : ∀ x ∈ xs, x < 256) (hi : p / 64 < s.ls.length) (hroom : Room 1 s) :
    Fn Try.prog 137 #[.pointer (some ⟨r, 0, none⟩), .int .i64 (p : Nat), .slice a m c] (F * RDev r s) (fun v B => v = .int .i64 (doneE (layS (p - p % 8) (nm (stW p xs s)) s)) ∧ B = F * RDev r (doneS (layS (p - p % 8) (nm (stW p xs s)) s))) := by
  refine fn_enterW (args := [.pointer (some ⟨r, 0, none⟩), .int .i64 (p : Nat), .slice a m c]) Try.func137 rfl Try.ntmps137 (by simp) ?_; refine tc_rdev fun hw lv rls av kvs hmap hkv => ?_
  have hpos := hw.pos
  have htop := hw.top
  refine tc_have (fun _ _ h => rdevR_of hw hmap h) fun hR => ?_
  obtain ⟨bl, ol, cl_, rfl, hlc, hll⟩ := hR.lv
  have hlen := hR.len
  have hir : p / 64 < rls.length := by omega
  obtain ⟨ba, oa, ca, g1, hca, har⟩ := hR.allC hir
  obtain ⟨br, orr, cr, ht, hcr, hrr⟩ := hR.top hir hi
  have hwl := hw.line _ (List.getElem_mem hi)
  have hs8 := seen8 hwl
  have hsm := hR.small hir
  have hroom1 := hroom _ (List.getElem_mem hi)
  have hrl := hR.rows hir hi
  have hq1 : (p - p % 8) / 64 = p / 64 := by omega
  have hq2 : (p - p % 8) % 64 / 8 = p % 64 / 8 := by omega
  refine sr ?_; refine tla ?_; refine nq ?_; refine sr ?_; refine tlm ?_; refine tv (o_quoN (b := 64) rfl rfl (by omega)) ?_; refine tla ?_; refine nq ?_; refine sr ?_; refine tlm ?_; refine tlm ?_; refine tl_c rfl (o_call bd127 rfl (rseen_f _ hR hir ht)) ?_; rintro _ _ ⟨rfl, rfl⟩; refine tl_c rfl (o_call bd39 rfl (CopyBytes_c (xs := lb (seenL s.ls[p / 64])) (hm := hs8))) ?_; rintro _ _ ⟨a15, c15, rfl, hc15, rfl⟩; refine tla ?_; refine nq ?_; refine tc_seq ?_; refine sr ?_; refine tla ?_; refine nq ?_; refine tc_block ?_; refine tc_loop (fun kk ρ BB => ∃ (k : Nat), (k ≤ m) ∧ kk = m - k ∧ ρ 9 = .int .i64 (k : Nat) ∧ ρ 0 = .pointer (some ⟨r, 0, none⟩) ∧ ρ 1 = .int .i64 (p : Nat) ∧ ρ 2 = .slice a m c ∧ ρ 7 = .int .i64 ((p / 64 : Nat) : Int) ∧ ρ 8 = .slice a15 64 c15 ∧ BB = F * RDevC r (.slice (some ⟨bl, ol, none⟩) s.ls.length cl_) rls av kvs s * Sl 1 (.slice a15 64 c15) 64 (bys (spl (lb (seenL s.ls[p / 64])) (p % 64) (xs.take k)))) (m := m - (0)) ?_ ?_
  · exact ⟨0, by omega, rfl, rfl, rfl, rfl, rfl, rfl, rfl, by rw [List.take_zero, spl_nil]⟩
  · intro k ρ B hI
    obtain ⟨k, hp0, hkk1, hE9, hE0, hE1, hE2, hE7, hE8, rfl⟩ := hI
    refine tc_env (d := 9) hE9 ?_; refine tc_env (d := 0) hE0 ?_; refine tc_env (d := 1) hE1 ?_; refine tc_env (d := 2) hE2 ?_; refine tc_env (d := 7) hE7 ?_; refine tc_env (d := 8) hE8 ?_
    clear hE9 hE0 hE1 hE2 hE7 hE8
    refine tc_seq ?_; refine sr ?_; refine tlm ?_; refine tlm ?_; refine tv (o_len Try.underlying28 rfl) ?_; refine tv (o_lss rfl rfl) ?_; refine nq ?_; refine tc_cond rfl (fun h => ?_) (fun h => ?_)
    · have hk : k < xs.length := by simp at h; omega
      refine tc_skip ?_; refine q_then_n ?_; refine tc_seq ?_; refine tc_block ?_; refine tc_reg ?_; refine tlm ?_; refine tlm ?_; refine tv (o_remN (b := 64) rfl rfl (by omega)) ?_; refine tlm ?_; refine tv (by first | exact o_addI rfl rfl (by omega) | exact o_add rfl rfl) ?_; refine tl_env (d := 26) (v := .int .i64 ((p % 64 + k : Nat) : Int)) (rfl) ?_; refine tlm ?_; refine tlm ?_; refine tv (o_ixP1 Try.underlying28 sz5 rfl rfl (by first | omega | (simp only [bys_length, ints_length, wds_length, bos_length, List.length_append, List.length_take, List.length_drop, List.length_singleton]; omega)) (by repeat (first | exact nn_some | with_reducible exact nn_sl (by decide) | exact nn_rs (by assumption) (fun _ => by first | omega | (simp only [bys_length, ints_length, wds_length, bos_length, List.length_append, List.length_take, List.length_drop, List.length_singleton]; omega)) | apply Nn.left))) ?_; refine tv (o_ldP p5 rfl (by repeat (first | assumption | with_reducible exact rs_sl | with_reducible exact rs_pt0 | exact rs_none | apply Rs.left)) (by first | assumption | exact bys_at (by omega) | exact ints_at (by omega) | exact wds_at (by omega) | exact bos_at (by omega) | rfl)) ?_; refine tv (o_ixP1 Try.underlying28 sz5 rfl rfl (by first | omega | (simp only [bys_length, ints_length, wds_length, bos_length, List.length_append, List.length_take, List.length_drop, List.length_singleton]; omega)) (by repeat (first | exact nn_some | with_reducible exact nn_sl (by decide) | exact nn_rs (by assumption) (fun _ => by first | omega | (simp only [bys_length, ints_length, wds_length, bos_length, List.length_append, List.length_take, List.length_drop, List.length_singleton]; omega)) | apply Nn.left))) ?_
      refine tl_u rfl (o_stP sz5 rfl rfl rfl (by repeat (first | with_reducible exact ct_here | apply ct_left)) (by omega) (by first | exact bys_set _ _ _ | exact ints_set _ _ _ | exact wds_set' _ _ _ | exact bos_set _ _ _ | rfl)) ?_; refine tl_nil ?_; refine q_block_n (q_then_n ?_); refine tc_reg ?_; refine tlm ?_; refine tv (by first | exact o_addI rfl rfl (by omega) | exact o_add rfl rfl) ?_; refine tla ?_; refine nq ?_; exact ⟨_, by omega, k + 1, by omega, rfl, rfl, rfl, rfl, rfl, rfl, rfl, by rw [← spl_take (show k < xs.length by omega) (by omega)]⟩
    · have h : ¬ (k < m) := by simp at h; omega
      refine tc_exit ?_; refine q_then_e (q_then_e (q_block_x (q_then_n ?_))); refine tc_seq ?_
      obtain rfl : k = xs.length := by omega
      rw [List.take_length, row_stW hw hi (by omega) hb]
      refine tc_pre (A' := F * rowR (⟨.slice a15 64 c15, (seenL s.ls[p / 64]).set (p % 64 / 8) (nm (stW p xs s))⟩ : Value × List Nat) * RDevC r (.slice (some ⟨bl, ol, none⟩) s.ls.length cl_) rls av kvs s) (fun _ _ h => (sl_share h).perm (by unfold rowR; exact star_swap _ _ _)) ?_
      obtain ⟨R, hf1, hf2⟩ := rdevC_focus (r := r) (lv := (.slice (some ⟨bl, ol, none⟩) s.ls.length cl_)) (av := av) (kvs := kvs) (s := s) (n := s.ls.length) hir rfl
      refine tc_eq (hf1 _) ?_
      have hv0 : rls[p / 64].v = .slice (some ⟨ba, oa, none⟩) rls[p / 64].rows.length ca := by rw [rcl_at0 hir] at g1; exact Option.some.inj g1
      rw [hv0]
      refine tc_regh (S := F * rowR (⟨.slice a15 64 c15, (seenL s.ls[p / 64]).set (p % 64 / 8) (nm (stW p xs s))⟩ : Value × List Nat) * R * pt r (cl (rdcs (.slice (some ⟨bl, ol, none⟩) s.ls.length cl_) s av) 91) * Bs rowR rls[p / 64].rows) mo (by repeat (first | with_reducible exact dr_refl | apply dr_keep | apply dr_drop)) ?_
      show TH _ _ _ _ _ 19 #[ff,ff,ff,ff,ff,ff,ff,ff,ff,ff,ff,ff,ff,ff,ff,ff,ff,ff,ff] _ _
      refine th_take (i := 0) (listed' := #[tt,ff,ff,ff,ff,ff,ff,ff,ff,ff,ff,ff,ff,ff,ff,ff,ff,ff,ff]) rfl (by kernel_rfl) (by kernel_rfl) (by kernel_rfl) rfl rfl (o_move (by conv => lhs; whnf)) ?_; refine th_take (i := 1) (listed' := #[tt,tt,ff,ff,ff,ff,ff,ff,ff,ff,ff,ff,ff,ff,ff,ff,ff,ff,ff]) rfl (by kernel_rfl) (by kernel_rfl) (by kernel_rfl) rfl rfl (o_nilCheck rfl) ?_; refine th_take (i := 2) (listed' := #[tt,tt,tt,ff,ff,ff,ff,ff,ff,ff,ff,ff,ff,ff,ff,ff,ff,ff,ff]) rfl (by kernel_rfl) (by kernel_rfl) (by kernel_rfl) rfl rfl (o_fieldAddr (o := 1) Try.underlying91 rfl rfl sz89 rfl) ?_; refine th_take (i := 3) (listed' := #[tt,tt,tt,tt,ff,ff,ff,ff,ff,ff,ff,ff,ff,ff,ff,ff,ff,ff,ff]) rfl (by kernel_rfl) (by kernel_rfl) (by kernel_rfl) rfl rfl (by first | exact o_load p89 rfl (by repeat (first | with_reducible exact has_here | with_reducible exact has_pt | apply has_left)) rfl | exact o_loadC p89 rfl (by assumption)) ?_; refine th_take (i := 4) (listed' := #[tt,tt,tt,tt,tt,ff,ff,ff,ff,ff,ff,ff,ff,ff,ff,ff,ff,ff,ff]) rfl (by kernel_rfl) (by kernel_rfl) (by kernel_rfl) rfl rfl (o_move (by conv => lhs; whnf)) ?_; refine th_take (i := 5) (listed' := #[tt,tt,tt,tt,tt,tt,ff,ff,ff,ff,ff,ff,ff,ff,ff,ff,ff,ff,ff]) rfl (by kernel_rfl) (by kernel_rfl) (by kernel_rfl) rfl rfl (o_move (by conv => lhs; whnf)) ?_; refine th_take (i := 6) (listed' := #[tt,tt,tt,tt,tt,tt,tt,ff,ff,ff,ff,ff,ff,ff,ff,ff,ff,ff,ff]) rfl (by kernel_rfl) (by kernel_rfl) (by kernel_rfl) rfl rfl (o_nilCheck rfl) ?_
      refine th_take (i := 7) (listed' := #[tt,tt,tt,tt,tt,tt,tt,tt,ff,ff,ff,ff,ff,ff,ff,ff,ff,ff,ff]) rfl (by kernel_rfl) (by kernel_rfl) (by kernel_rfl) rfl rfl (o_fieldAddr (o := 1) Try.underlying91 rfl rfl sz89 rfl) ?_; refine th_take (i := 8) (listed' := #[tt,tt,tt,tt,tt,tt,tt,tt,tt,ff,ff,ff,ff,ff,ff,ff,ff,ff,ff]) rfl (by kernel_rfl) (by kernel_rfl) (by kernel_rfl) rfl rfl (by first | exact o_load p89 rfl (by repeat (first | with_reducible exact has_here | with_reducible exact has_pt | apply has_left)) rfl | exact o_loadC p89 rfl (by assumption)) ?_; refine th_take (i := 9) (listed' := #[tt,tt,tt,tt,tt,tt,tt,tt,tt,tt,ff,ff,ff,ff,ff,ff,ff,ff,ff]) rfl (by kernel_rfl) (by kernel_rfl) (by kernel_rfl) rfl rfl (o_move (by conv => lhs; whnf)) ?_; refine th_take (i := 10) (listed' := #[tt,tt,tt,tt,tt,tt,tt,tt,tt,tt,tt,ff,ff,ff,ff,ff,ff,ff,ff]) rfl (by kernel_rfl) (by kernel_rfl) (by kernel_rfl) rfl rfl (o_ixP Try.underlying89 sz176 rfl rfl (by first | omega | (simp only [bys_length, ints_length, wds_length, bos_length, List.length_append, List.length_take, List.length_drop, List.length_singleton]; omega)) (by repeat (first | exact nn_some | with_reducible exact nn_sl (by decide) | exact nn_rs (by assumption) (fun _ => by first | omega | (simp only [bys_length, ints_length, wds_length, bos_length, List.length_append, List.length_take, List.length_drop, List.length_singleton]; omega)) | apply Nn.left))) ?_; refine th_take (i := 11) (listed' := #[tt,tt,tt,tt,tt,tt,tt,tt,tt,tt,tt,tt,ff,ff,ff,ff,ff,ff,ff]) rfl (by kernel_rfl) (by kernel_rfl) (by kernel_rfl) rfl rfl (o_faP (m := 0) (o := 0) Try.underlying176 rfl rfl sz33 rfl (by repeat (first | exact nn_some | with_reducible exact nn_sl (by decide) | exact nn_rs (by assumption) (fun _ => by first | omega | (simp only [bys_length, ints_length, wds_length, bos_length, List.length_append, List.length_take, List.length_drop, List.length_singleton]; omega)) | apply Nn.left))) ?_
      refine th_take (i := 13) (listed' := #[tt,tt,tt,tt,tt,tt,tt,tt,tt,tt,tt,tt,ff,tt,ff,ff,ff,ff,ff]) rfl (by kernel_rfl) (by kernel_rfl) (by kernel_rfl) rfl rfl (o_move (by conv => lhs; whnf)) ?_; refine th_two (i := 12) (j := 14) (by kernel_rfl) ?_ ?_
      · skip
        refine oh_v (i := 12) (listed' := #[tt,tt,tt,tt,tt,tt,tt,tt,tt,tt,tt,tt,tt,tt,ff,ff,ff,ff,ff]) rfl rfl rfl (o_ldP p33 rfl (by repeat (first | assumption | with_reducible exact rs_sl | with_reducible exact rs_pt0 | exact rs_none | apply Rs.left)) g1) ?_; refine th_one (i := 14) (by kernel_rfl) ?_; refine oh_x (i := 14) (listed' := #[tt,tt,tt,tt,tt,tt,tt,tt,tt,tt,tt,tt,tt,tt,tt,ff,ff,ff,ff]) rfl rfl rfl (o_buildSlice1 Try.underlying33 sz28 z28 (by conv => lhs; whnf) rfl) ?_; rintro _ _ ⟨b46, rfl, rfl⟩; refine ⟨by repeat (first | with_reducible exact dr_refl | apply dr_keep | apply dr_drop), ?_⟩; refine th_one (i := 15) (by kernel_rfl) ?_; refine oh_x (i := 15) (listed' := #[tt,tt,tt,tt,tt,tt,tt,tt,tt,tt,tt,tt,tt,tt,tt,tt,ff,ff,ff]) rfl rfl rfl (o_apB Try.underlying33 Try.underlying33 sz28 by28 z28 rfl (by decide) (by decide) rfl rfl rfl (by repeat (first | with_reducible exact ct_here | apply ct_left)) rfl (by first | exact bys_all _ | exact ints_all _ | exact wds_all _ | exact bos_all _ | rfl) (by first | omega | (simp only [bys_length, ints_length, wds_length, bos_length, List.length_append, List.length_take, List.length_drop, List.length_singleton]; omega)) (by first | exact bys_sn _ _ | exact ints_sn _ _ | exact wds_sn _ _ | exact bos_sn _ _ | exact (bys_append _ _).symm | rfl)) ?_; rintro _ _ ⟨a47, c47, rfl, hc47, rfl⟩; refine ⟨by repeat (first | with_reducible exact dr_refl | apply dr_keep | apply dr_drop), ?_⟩; refine th_take (i := 16) (listed' := #[tt,tt,tt,tt,tt,tt,tt,tt,tt,tt,tt,tt,tt,tt,tt,tt,tt,ff,ff]) rfl (by kernel_rfl) (by kernel_rfl) (by kernel_rfl) rfl rfl (o_ixP Try.underlying89 sz176 rfl rfl (by first | omega | (simp only [bys_length, ints_length, wds_length, bos_length, List.length_append, List.length_take, List.length_drop, List.length_singleton]; omega)) (by repeat (first | exact nn_some | with_reducible exact nn_sl (by decide) | exact nn_rs (by assumption) (fun _ => by first | omega | (simp only [bys_length, ints_length, wds_length, bos_length, List.length_append, List.length_take, List.length_drop, List.length_singleton]; omega)) | apply Nn.left))) ?_
        refine th_take (i := 17) (listed' := #[tt,tt,tt,tt,tt,tt,tt,tt,tt,tt,tt,tt,tt,tt,tt,tt,tt,tt,ff]) rfl (by kernel_rfl) (by kernel_rfl) (by kernel_rfl) rfl rfl (o_faP (m := 0) (o := 0) Try.underlying176 rfl rfl sz33 rfl (by repeat (first | exact nn_some | with_reducible exact nn_sl (by decide) | exact nn_rs (by assumption) (fun _ => by first | omega | (simp only [bys_length, ints_length, wds_length, bos_length, List.length_append, List.length_take, List.length_drop, List.length_singleton]; omega)) | apply Nn.left))) ?_; refine th_one (i := 18) (by kernel_rfl) ?_; refine oh_u (i := 18) (listed' := #[tt,tt,tt,tt,tt,tt,tt,tt,tt,tt,tt,tt,tt,tt,tt,tt,tt,tt,tt]) rfl rfl rfl (o_stP (ys := (rls.set (p / 64) ⟨.slice a47 (rls[p / 64].rows.length + 1) c47, rls[p / 64].rows ++ [(⟨.slice a15 64 c15, (seenL s.ls[p / 64]).set (p % 64 / 8) (nm (stW p xs s))⟩ : Value × List Nat)], rls[p / 64].mark⟩).flatMap rcl) sz33 rfl rfl rfl (by repeat (first | with_reducible exact ct_here | apply ct_left)) (by omega) (fm_set (f := rcl) (k := 2) (j := 0) (y := ⟨.slice a47 (rls[p / 64].rows.length + 1) c47, rls[p / 64].rows ++ [(⟨.slice a15 64 c15, (seenL s.ls[p / 64]).set (p % 64 / 8) (nm (stW p xs s))⟩ : Value × List Nat)], rls[p / 64].mark⟩) (rcl_len _) hir (by decide) rfl rfl)) (by repeat (first | with_reducible exact dr_refl | apply dr_keep | apply dr_drop)) ?_; refine th_done (by kernel_rfl) ?_; refine q_then_n ?_; refine tc_seq ?_
        have hnm := stW_nm (p := p) (s := s) hb
        have hxl : RL.l ⟨.slice a47 (rls[p / 64].rows.length + 1) c47, rls[p / 64].rows ++ [(⟨.slice a15 64 c15, (seenL s.ls[p / 64]).set (p % 64 / 8) (nm (stW p xs s))⟩ : Value × List Nat)], rls[p / 64].mark⟩ = layL (p % 64 / 8) (nm (stW p xs s)) s.ls[p / 64] := by
          have e := hR.at_ _ hir hi
          unfold RL.l layL at *
          simp only [List.map_append, List.map_cons, List.map_nil]
          rw [← e]
        have hmap2 : (rls.set (p / 64) ⟨.slice a47 (rls[p / 64].rows.length + 1) c47, rls[p / 64].rows ++ [(⟨.slice a15 64 c15, (seenL s.ls[p / 64]).set (p % 64 / 8) (nm (stW p xs s))⟩ : Value × List Nat)], rls[p / 64].mark⟩).map RL.l = (layS (p - p % 8) (nm (stW p xs s)) s).ls := by
          have := lay_map (p := p - p % 8) (v := nm (stW p xs s)) (x := ⟨.slice a47 (rls[p / 64].rows.length + 1) c47, rls[p / 64].rows ++ [(⟨.slice a15 64 c15, (seenL s.ls[p / 64]).set (p % 64 / 8) (nm (stW p xs s))⟩ : Value × List Nat)], rls[p / 64].mark⟩) hmap (by rw [hq1]; exact hi) (by rw [hq2]; simp only [hq1]; exact hxl)
          rwa [hq1] at this
        have hlf := onLine_fields (layL ((p - p % 8) % 64 / 8) (nm (stW p xs s))) ((p - p % 8) / 64) s
        refine tc_eq (A' := F * RDevC r (.slice (some ⟨bl, ol, none⟩) s.ls.length cl_) (rls.set (p / 64) ⟨.slice a47 (rls[p / 64].rows.length + 1) c47, rls[p / 64].rows ++ [(⟨.slice a15 64 c15, (seenL s.ls[p / 64]).set (p % 64 / 8) (nm (stW p xs s))⟩ : Value × List Nat)], rls[p / 64].mark⟩) av kvs (layS (p - p % 8) (nm (stW p xs s)) s)) ?_ ?_
        · rw [← hf2 F ⟨.slice a47 (rls[p / 64].rows.length + 1) c47, rls[p / 64].rows ++ [(⟨.slice a15 64 c15, (seenL s.ls[p / 64]).set (p % 64 / 8) (nm (stW p xs s))⟩ : Value × List Nat)], rls[p / 64].mark⟩ (layS (p - p % 8) (nm (stW p xs s)) s) (layS_len _ _ _) hlf.2.1 hlf.1 hlf.2.2.1 hlf.2.2.2.1]
          simp only [List.length_append, List.length_singleton, List.map_append, List.map_cons, List.map_nil, bs_snoc]
          ac_rfl
        refine tc_pre (rdev_back (layS_wf hw hroom hnm) hmap2 (by rw [show (layS (p - p % 8) (nm (stW p xs s)) s).arms = s.arms from hlf.2.1]; exact hkv)) ?_; refine tc_reg ?_; refine tlm ?_; refine tl_c rfl (o_call bd139 rfl (rdone_f F)) ?_; rintro _ _ ⟨rfl, rfl⟩; refine tla ?_; refine nq ?_; refine tc_ret ?_; exact ⟨.int .i64 (doneE (layS (p - p % 8) (nm (stW p xs s)) s)), F * RDev r (doneS (layS (p - p % 8) (nm (stW p xs s)) s)), res1 rfl rfl, Dr.sat (by repeat (first | with_reducible exact dr_refl | apply dr_keep | apply dr_drop)), rfl, rfl⟩
      · skip
        refine oh_x (i := 14) (listed' := #[tt,tt,tt,tt,tt,tt,tt,tt,tt,tt,tt,tt,ff,tt,tt,ff,ff,ff,ff]) rfl rfl rfl (o_buildSlice1 Try.underlying33 sz28 z28 (by conv => lhs; whnf) rfl) ?_; rintro _ _ ⟨b46, rfl, rfl⟩; refine ⟨by repeat (first | with_reducible exact dr_refl | apply dr_keep | apply dr_drop), ?_⟩; refine th_one (i := 12) (by kernel_rfl) ?_; refine oh_v (i := 12) (listed' := #[tt,tt,tt,tt,tt,tt,tt,tt,tt,tt,tt,tt,tt,tt,tt,ff,ff,ff,ff]) rfl rfl rfl (o_ldP p33 rfl (by repeat (first | assumption | with_reducible exact rs_sl | with_reducible exact rs_pt0 | exact rs_none | apply Rs.left)) g1) ?_; refine th_one (i := 15) (by kernel_rfl) ?_; refine oh_x (i := 15) (listed' := #[tt,tt,tt,tt,tt,tt,tt,tt,tt,tt,tt,tt,tt,tt,tt,tt,ff,ff,ff]) rfl rfl rfl (o_apB Try.underlying33 Try.underlying33 sz28 by28 z28 rfl (by decide) (by decide) rfl rfl rfl (by repeat (first | with_reducible exact ct_here | apply ct_left)) rfl (by first | exact bys_all _ | exact ints_all _ | exact wds_all _ | exact bos_all _ | rfl) (by first | omega | (simp only [bys_length, ints_length, wds_length, bos_length, List.length_append, List.length_take, List.length_drop, List.length_singleton]; omega)) (by first | exact bys_sn _ _ | exact ints_sn _ _ | exact wds_sn _ _ | exact bos_sn _ _ | exact (bys_append _ _).symm | rfl)) ?_; rintro _ _ ⟨a47, c47, rfl, hc47, rfl⟩; refine ⟨by repeat (first | with_reducible exact dr_refl | apply dr_keep | apply dr_drop), ?_⟩; refine th_take (i := 16) (listed' := #[tt,tt,tt,tt,tt,tt,tt,tt,tt,tt,tt,tt,tt,tt,tt,tt,tt,ff,ff]) rfl (by kernel_rfl) (by kernel_rfl) (by kernel_rfl) rfl rfl (o_ixP Try.underlying89 sz176 rfl rfl (by first | omega | (simp only [bys_length, ints_length, wds_length, bos_length, List.length_append, List.length_take, List.length_drop, List.length_singleton]; omega)) (by repeat (first | exact nn_some | with_reducible exact nn_sl (by decide) | exact nn_rs (by assumption) (fun _ => by first | omega | (simp only [bys_length, ints_length, wds_length, bos_length, List.length_append, List.length_take, List.length_drop, List.length_singleton]; omega)) | apply Nn.left))) ?_
        refine th_take (i := 17) (listed' := #[tt,tt,tt,tt,tt,tt,tt,tt,tt,tt,tt,tt,tt,tt,tt,tt,tt,tt,ff]) rfl (by kernel_rfl) (by kernel_rfl) (by kernel_rfl) rfl rfl (o_faP (m := 0) (o := 0) Try.underlying176 rfl rfl sz33 rfl (by repeat (first | exact nn_some | with_reducible exact nn_sl (by decide) | exact nn_rs (by assumption) (fun _ => by first | omega | (simp only [bys_length, ints_length, wds_length, bos_length, List.length_append, List.length_take, List.length_drop, List.length_singleton]; omega)) | apply Nn.left))) ?_; refine th_one (i := 18) (by kernel_rfl) ?_; refine oh_u (i := 18) (listed' := #[tt,tt,tt,tt,tt,tt,tt,tt,tt,tt,tt,tt,tt,tt,tt,tt,tt,tt,tt]) rfl rfl rfl (o_stP (ys := (rls.set (p / 64) ⟨.slice a47 (rls[p / 64].rows.length + 1) c47, rls[p / 64].rows ++ [(⟨.slice a15 64 c15, (seenL s.ls[p / 64]).set (p % 64 / 8) (nm (stW p xs s))⟩ : Value × List Nat)], rls[p / 64].mark⟩).flatMap rcl) sz33 rfl rfl rfl (by repeat (first | with_reducible exact ct_here | apply ct_left)) (by omega) (fm_set (f := rcl) (k := 2) (j := 0) (y := ⟨.slice a47 (rls[p / 64].rows.length + 1) c47, rls[p / 64].rows ++ [(⟨.slice a15 64 c15, (seenL s.ls[p / 64]).set (p % 64 / 8) (nm (stW p xs s))⟩ : Value × List Nat)], rls[p / 64].mark⟩) (rcl_len _) hir (by decide) rfl rfl)) (by repeat (first | with_reducible exact dr_refl | apply dr_keep | apply dr_drop)) ?_; refine th_done (by kernel_rfl) ?_; refine q_then_n ?_; refine tc_seq ?_
        have hnm := stW_nm (p := p) (s := s) hb
        have hxl : RL.l ⟨.slice a47 (rls[p / 64].rows.length + 1) c47, rls[p / 64].rows ++ [(⟨.slice a15 64 c15, (seenL s.ls[p / 64]).set (p % 64 / 8) (nm (stW p xs s))⟩ : Value × List Nat)], rls[p / 64].mark⟩ = layL (p % 64 / 8) (nm (stW p xs s)) s.ls[p / 64] := by
          have e := hR.at_ _ hir hi
          unfold RL.l layL at *
          simp only [List.map_append, List.map_cons, List.map_nil]
          rw [← e]
        have hmap2 : (rls.set (p / 64) ⟨.slice a47 (rls[p / 64].rows.length + 1) c47, rls[p / 64].rows ++ [(⟨.slice a15 64 c15, (seenL s.ls[p / 64]).set (p % 64 / 8) (nm (stW p xs s))⟩ : Value × List Nat)], rls[p / 64].mark⟩).map RL.l = (layS (p - p % 8) (nm (stW p xs s)) s).ls := by
          have := lay_map (p := p - p % 8) (v := nm (stW p xs s)) (x := ⟨.slice a47 (rls[p / 64].rows.length + 1) c47, rls[p / 64].rows ++ [(⟨.slice a15 64 c15, (seenL s.ls[p / 64]).set (p % 64 / 8) (nm (stW p xs s))⟩ : Value × List Nat)], rls[p / 64].mark⟩) hmap (by rw [hq1]; exact hi) (by rw [hq2]; simp only [hq1]; exact hxl)
          rwa [hq1] at this
        have hlf := onLine_fields (layL ((p - p % 8) % 64 / 8) (nm (stW p xs s))) ((p - p % 8) / 64) s
        refine tc_eq (A' := F * RDevC r (.slice (some ⟨bl, ol, none⟩) s.ls.length cl_) (rls.set (p / 64) ⟨.slice a47 (rls[p / 64].rows.length + 1) c47, rls[p / 64].rows ++ [(⟨.slice a15 64 c15, (seenL s.ls[p / 64]).set (p % 64 / 8) (nm (stW p xs s))⟩ : Value × List Nat)], rls[p / 64].mark⟩) av kvs (layS (p - p % 8) (nm (stW p xs s)) s)) ?_ ?_
        · rw [← hf2 F ⟨.slice a47 (rls[p / 64].rows.length + 1) c47, rls[p / 64].rows ++ [(⟨.slice a15 64 c15, (seenL s.ls[p / 64]).set (p % 64 / 8) (nm (stW p xs s))⟩ : Value × List Nat)], rls[p / 64].mark⟩ (layS (p - p % 8) (nm (stW p xs s)) s) (layS_len _ _ _) hlf.2.1 hlf.1 hlf.2.2.1 hlf.2.2.2.1]
          simp only [List.length_append, List.length_singleton, List.map_append, List.map_cons, List.map_nil, bs_snoc]
          ac_rfl
        refine tc_pre (rdev_back (layS_wf hw hroom hnm) hmap2 (by rw [show (layS (p - p % 8) (nm (stW p xs s)) s).arms = s.arms from hlf.2.1]; exact hkv)) ?_; refine tc_reg ?_; refine tlm ?_; refine tl_c rfl (o_call bd139 rfl (rdone_f F)) ?_; rintro _ _ ⟨rfl, rfl⟩; refine tla ?_; refine nq ?_; refine tc_ret ?_; exact ⟨.int .i64 (doneE (layS (p - p % 8) (nm (stW p xs s)) s)), F * RDev r (doneS (layS (p - p % 8) (nm (stW p xs s)) s)), res1 rfl rfl, Dr.sat (by repeat (first | with_reducible exact dr_refl | apply dr_keep | apply dr_drop)), rfl, rfl⟩
theorem rword_c {A R : SP} {C : SP → SP} {r : Nat} {s : DevS} (hc : Ct A (RDev r s) R C := by repeat (first | with_reducible exact ct_here | apply ct_left)) {c m p : Nat} {a : Option Addr} {xs : List Nat} (hr : Rs R a (bys xs) := by repeat (first | assumption | with_reducible exact rs_sl | with_reducible exact rs_pt0 | exact rs_none | apply Rs.left)) (hm : xs.length = m := by first | assumption | rfl) (hx : m ≤ 8 - p % 8 := by omega) (hb : ∀ x ∈ xs, x < 256 := by assumption) (hi : p / 64 < s.ls.length := by omega) (hroom : Room 1 s := by assumption) :
    Fn Try.prog 137 #[.pointer (some ⟨r, 0, none⟩), .int .i64 (p : Nat), .slice a m c] A (fun v B => v = .int .i64 (doneE (layS (p - p % 8) (nm (stW p xs s)) s)) ∧ B = C (RDev r (doneS (layS (p - p % 8) (nm (stW p xs s)) s)))) := by
  obtain ⟨rfl, hC⟩ := hc
  exact (rword_f R hr hm hx hb hi hroom).mono fun _ _ h => ⟨h.1, by rw [hC]; exact h.2⟩
theorem tmod8 {p : Int} : p.tmod 8 = 0 ↔ p % 8 = 0 := ⟨fun h => Int.emod_eq_zero_of_dvd (Int.dvd_of_tmod_eq_zero h), fun h => Int.tmod_eq_zero_of_dvd (Int.dvd_of_emod_eq_zero h)⟩
theorem fl1_no {p : Int} {s : DevS} (hoff : s.off = false) (h : p < 0 ∨ (s.ls.length : Int) * 64 ≤ p) : fl1 p s = (6, s) := by
  have e : rdy s.ls.length s.off p 1 = 6 := by unfold rdy; rw [hoff, if_neg (by decide), if_pos (by omega)]
  unfold fl1; rw [e, if_pos (by decide)]
theorem st8_no {p : Int} {v : Nat} {s : DevS} (hoff : s.off = false) (h : p % 8 ≠ 0 ∨ rdy s.ls.length s.off p 8 ≠ 0) : st8 p v s = (6, s) := by
  unfold st8
  by_cases hz : rdy s.ls.length s.off p 8 = 0
  · rw [if_neg (by omega), if_pos (by omega)]
  · rw [if_pos hz]
    unfold rdy at hz ⊢
    rw [hoff] at hz ⊢
    rw [if_neg (by decide)] at hz ⊢
    split at hz
    · rename_i h1; rw [if_pos h1]
    · exact absurd rfl hz
theorem stW_whole {p v : Nat} {s : DevS} (h : p % 8 = 0) : stW p (le 8 v) s = le 8 v := by
  unfold stW
  rw [h, List.take_of_length_le (by rw [le_length]; omega)]
  unfold spl
  rw [List.take_zero, List.nil_append, List.drop_of_length_le (by rw [le_length, le_length]; omega), List.append_nil]
theorem nm_le8 {v : Nat} (h : v < 18446744073709551616) : nm (le 8 v) = v := by rw [nm_le]; exact Nat.mod_eq_of_lt h
theorem rStore8_f (F : SP) {r v : Nat} {p : Int} {s : DevS} (hp : -9223372036854775808 ≤ p ∧ p ≤ 9223372036854775807) (hv : v < 18446744073709551616) (hroom : Room 1 s) :
    Fn Try.prog 107 #[.pointer (some ⟨r, 0, none⟩), .int .i64 p, .int .u64 (v : Nat)] (F * RDev r s) (fun v_ B => v_ = .int .i64 (st8 p v s).1 ∧ B = F * RDev r (st8 p v s).2) := by
  refine fn_enterW (args := [.pointer (some ⟨r, 0, none⟩), .int .i64 p, .int .u64 (v : Nat)]) Try.func107 rfl Try.ntmps107 (by simp) ?_; refine tc_rdev fun hw lv rls av kvs hmap hkv => ?_
  have hpos := hw.pos
  have htop := hw.top
  refine tc_have (fun _ _ h => rdevR_of hw hmap h) fun hR => ?_
  obtain ⟨bl, ol, cl_, rfl, hlc, hll⟩ := hR.lv
  have hlen := hR.len
  
  refine sr ?_; refine tla ?_; refine nq ?_; refine tc_seq ?_; refine sr ?_; refine tlm ?_; refine tv (o_nilCheck rfl) ?_; refine tv (o_fieldAddr (o := 5) Try.underlying91 rfl rfl sz4 rfl) ?_; refine tv (o_load p4 rfl (by repeat (first | exact rdevC_r | apply has_left)) rfl) ?_; refine nq ?_; refine tc_cond rfl (fun h => ?_) (fun h => ?_)
  · try simp only [lv1, lv2, lv3, lv4, lv5, lv6, Bool.not_true, Bool.not_false] at h
    refine sr ?_; refine tla ?_; refine nq ?_; refine tc_ret ?_; refine q_then_r ?_
    have e : st8 p v s = (5, s) := by unfold st8 rdy; rw [h]; rfl
    rw [e]
    exact ⟨.int .i64 5, F * RDev r s, res1 rfl rfl, rdev_back hw hmap hkv, rfl, rfl⟩
  · have hoff : s.off = false := by simpa using h
    have e5 : rdy s.ls.length s.off p 8 = rdy s.ls.length false p 8 := by rw [hoff]
    refine tc_skip ?_; refine q_then_n ?_; refine tc_seq ?_; refine sr ?_; refine tlm ?_; refine tv (o_rem (b := 8) rfl rfl (by decide)) ?_; refine tv (o_nei rfl rfl) ?_; refine tlm ?_; refine tl_bool (d := 14) rfl (fun h => ?_) (fun h => ?_)
    · have hne : p % 8 ≠ 0 := fun e => by simp at h; exact h (tmod8.2 e)
      have e : st8 p v s = (6, s) := st8_no hoff (.inl hne)
      refine tk ?_; refine tk ?_; refine tk ?_; refine tk ?_; refine tv (o_pick_t rfl (by conv => lhs; whnf)) ?_; refine nq ?_; refine tc_cond_t rfl ?_; refine sr ?_; refine tla ?_; refine nq ?_; refine tc_ret ?_; refine q_then_r ?_
      rw [e]
      exact ⟨.int .i64 6, F * RDev r s, res1 rfl rfl, rdev_back hw hmap hkv, rfl, rfl⟩
    · have hmod : p % 8 = 0 := tmod8.1 (by simpa using h)
      refine tlm ?_; refine tlm ?_; refine tl_c rfl (o_call bd136 rfl (rinside_f _ hR hp (by decide))) ?_; rintro _ _ ⟨rfl, rfl⟩; refine tv (o_not rfl) ?_; refine tv (o_pick_f rfl (by conv => lhs; whnf)) ?_; refine nq ?_; refine tc_cond rfl (fun h => ?_) (fun h => ?_)
      · have hz : rdy s.ls.length s.off p 8 ≠ 0 := by rw [e5]; simpa using h
        have e : st8 p v s = (6, s) := st8_no hoff (.inr hz)
        refine sr ?_; refine tla ?_; refine nq ?_; refine tc_ret ?_; refine q_then_r ?_
        rw [e]
        exact ⟨.int .i64 6, F * RDev r s, res1 rfl rfl, rdev_back hw hmap hkv, rfl, rfl⟩
      · have hz : rdy s.ls.length s.off p 8 = 0 := by rw [e5]; simpa using h
        obtain ⟨q, rfl⟩ := Int.eq_ofNat_of_zero_le (rdy0 hz).2.1
        have hr0 := rdy0 hz
        have e : st8 (q : Int) v s = (doneE (layS q v s), doneS (layS q v s)) := by unfold st8; rw [if_neg (by omega), if_neg (by omega), Int.toNat_natCast]
        refine tc_skip ?_; refine q_then_n ?_; refine tc_seq ?_; refine tc_pre (rdev_back hw hmap hkv) ?_; refine tc_reg ?_; refine tlm ?_; refine tlm ?_; refine tlm ?_; refine tl_c rfl (o_call bd74 rfl (Little_c (v := v) (n := 8))) ?_; rintro _ _ ⟨a23, c23, rfl, hc23, rfl⟩; refine tl_c rfl (o_call bd137 rfl (rword_c (p := q) (xs := le 8 v) (hm := le_length 8 v) (hb := le_bytes 8 v))) ?_; rintro _ _ ⟨rfl, rfl⟩; refine tla ?_; refine nq ?_; refine tc_ret ?_
        have e0 : q - q % 8 = q := by omega
        rw [stW_whole (by omega), nm_le8 hv, e0, ← show (st8 (q : Int) v s).1 = doneE (layS q v s) by rw [e], ← show (st8 (q : Int) v s).2 = doneS (layS q v s) by rw [e]]
        exact ⟨.int .i64 (st8 (q : Int) v s).1, F * RDev r (st8 (q : Int) v s).2, res1 rfl (by rw [e]; rfl), Dr.sat (by repeat (first | with_reducible exact dr_refl | apply dr_keep | apply dr_drop)), rfl, rfl⟩
theorem rFlush_f (F : SP) {r : Nat} {p : Int} {s : DevS} (hp : -9223372036854775808 ≤ p ∧ p ≤ 9223372036854775807) :
    Fn Try.prog 109 #[.pointer (some ⟨r, 0, none⟩), .int .i64 p] (F * RDev r s) (fun v_ B => v_ = .int .i64 (fl1 p s).1 ∧ B = F * RDev r (fl1 p s).2) := by
  refine fn_enterW (args := [.pointer (some ⟨r, 0, none⟩), .int .i64 p]) Try.func109 rfl Try.ntmps109 (by simp) ?_; refine tc_rdev fun hw lv rls av kvs hmap hkv => ?_
  have hpos := hw.pos
  have htop := hw.top
  refine tc_have (fun _ _ h => rdevR_of hw hmap h) fun hR => ?_
  obtain ⟨bl, ol, cl_, rfl, hlc, hll⟩ := hR.lv
  have hlen := hR.len
  
  refine sr ?_; refine tla ?_; refine nq ?_; refine tc_seq ?_; refine sr ?_; refine tlm ?_; refine tv (o_nilCheck rfl) ?_; refine tv (o_fieldAddr (o := 5) Try.underlying91 rfl rfl sz4 rfl) ?_; refine tv (o_load p4 rfl (by repeat (first | exact rdevC_r | apply has_left)) rfl) ?_; refine nq ?_; refine tc_cond rfl (fun h => ?_) (fun h => ?_)
  · try simp only [lv1, lv2, lv3, lv4, lv5, lv6, Bool.not_true, Bool.not_false] at h
    refine sr ?_; refine tla ?_; refine nq ?_; refine tc_ret ?_; refine q_then_r ?_
    have e : fl1 p s = (5, s) := by unfold fl1 rdy; rw [h]; rfl
    rw [e]
    exact ⟨.int .i64 5, F * RDev r s, res1 rfl rfl, rdev_back hw hmap hkv, rfl, rfl⟩
  · have hoff : s.off = false := by simpa using h
    refine tc_skip ?_; refine q_then_n ?_; refine tc_seq ?_; refine sr ?_; refine tlm ?_; refine tv (o_lss rfl rfl) ?_; refine tlm ?_; refine tl_bool (d := 11) rfl (fun h => ?_) (fun h => ?_)
    · have h : p < 0 := by simpa using h
      have e : fl1 p s = (6, s) := fl1_no hoff (by omega)
      refine tk ?_; refine tk ?_; refine tk ?_; refine tk ?_; refine tk ?_; refine tk ?_; refine tv (o_pick_t rfl (by conv => lhs; whnf)) ?_; refine nq ?_; refine tc_cond_t rfl ?_; refine sr ?_; refine tla ?_; refine nq ?_; refine tc_ret ?_; refine q_then_r ?_
      rw [e]
      exact ⟨.int .i64 6, F * RDev r s, res1 rfl rfl, rdev_back hw hmap hkv, rfl, rfl⟩
    · have hp0 : 0 ≤ p := by simpa using h
      refine tlm ?_; refine tlm ?_; refine tv (o_nilCheck rfl) ?_; refine tv (o_fieldAddr (o := 0) Try.underlying91 rfl rfl sz3 rfl) ?_; refine tv (o_load p3 rfl (by repeat (first | exact rdevC_r | apply has_left)) rfl) ?_; refine tv (o_geq rfl rfl) ?_; refine tv (o_pick_f rfl (by conv => lhs; whnf)) ?_; refine nq ?_; refine tc_cond rfl (fun h => ?_) (fun h => ?_)
      · have h : ((s.ls.length * 64 : Nat) : Int) ≤ p := by simpa using h
        have e : fl1 p s = (6, s) := fl1_no hoff (by omega)
        refine sr ?_; refine tla ?_; refine nq ?_; refine tc_ret ?_; refine q_then_r ?_
        rw [e]
        exact ⟨.int .i64 6, F * RDev r s, res1 rfl rfl, rdev_back hw hmap hkv, rfl, rfl⟩
      · have h : p < ((s.ls.length * 64 : Nat) : Int) := by simpa using h
        obtain ⟨q, rfl⟩ := Int.eq_ofNat_of_zero_le hp0
        have hz : rdy s.ls.length s.off (q : Int) 1 = 0 := by unfold rdy; rw [hoff, if_neg (by decide), if_neg (by omega)]
        have e : fl1 (q : Int) s = (doneE (flushS q s), doneS (flushS q s)) := by unfold fl1; rw [if_neg (by omega), Int.toNat_natCast]
        have hi : q / 64 < s.ls.length := by omega
        have hir : q / 64 < rls.length := by omega
        obtain ⟨ba, oa, ca, g1, hca, har⟩ := hR.allC hir
        have hrl := hR.rows hir hi
        have hps := hR.pos hir
        have hsm := hR.small hir
        have hwl := hw.line _ (List.getElem_mem hi)
        refine tc_skip ?_; refine q_then_n ?_; refine tc_seq ?_
        obtain ⟨R, hf1, hf2⟩ := rdevC_focus (r := r) (lv := (.slice (some ⟨bl, ol, none⟩) s.ls.length cl_)) (av := av) (kvs := kvs) (s := s) (n := s.ls.length) hir rfl
        refine tc_eq (hf1 F) ?_; refine tc_regh (S := F * R * pt r (cl (rdcs (.slice (some ⟨bl, ol, none⟩) s.ls.length cl_) s av) 91)) mo (by repeat (first | with_reducible exact dr_refl | apply dr_keep | apply dr_drop)) ?_
        show TH _ _ _ _ _ 20 #[ff,ff,ff,ff,ff,ff,ff,ff,ff,ff,ff,ff,ff,ff,ff,ff,ff,ff,ff,ff] _ _
        refine th_take (i := 0) (listed' := #[tt,ff,ff,ff,ff,ff,ff,ff,ff,ff,ff,ff,ff,ff,ff,ff,ff,ff,ff,ff]) rfl (by kernel_rfl) (by kernel_rfl) (by kernel_rfl) rfl rfl (o_move (by conv => lhs; whnf)) ?_; refine th_take (i := 1) (listed' := #[tt,tt,ff,ff,ff,ff,ff,ff,ff,ff,ff,ff,ff,ff,ff,ff,ff,ff,ff,ff]) rfl (by kernel_rfl) (by kernel_rfl) (by kernel_rfl) rfl rfl (o_nilCheck rfl) ?_; refine th_take (i := 2) (listed' := #[tt,tt,tt,ff,ff,ff,ff,ff,ff,ff,ff,ff,ff,ff,ff,ff,ff,ff,ff,ff]) rfl (by kernel_rfl) (by kernel_rfl) (by kernel_rfl) rfl rfl (o_fieldAddr (o := 1) Try.underlying91 rfl rfl sz89 rfl) ?_; refine th_take (i := 3) (listed' := #[tt,tt,tt,tt,ff,ff,ff,ff,ff,ff,ff,ff,ff,ff,ff,ff,ff,ff,ff,ff]) rfl (by kernel_rfl) (by kernel_rfl) (by kernel_rfl) rfl rfl (by first | exact o_load p89 rfl (by repeat (first | with_reducible exact has_here | with_reducible exact has_pt | apply has_left)) rfl | exact o_loadC p89 rfl (by assumption)) ?_; refine th_take (i := 4) (listed' := #[tt,tt,tt,tt,tt,ff,ff,ff,ff,ff,ff,ff,ff,ff,ff,ff,ff,ff,ff,ff]) rfl (by kernel_rfl) (by kernel_rfl) (by kernel_rfl) rfl rfl (o_move (by conv => lhs; whnf)) ?_; refine th_take (i := 5) (listed' := #[tt,tt,tt,tt,tt,tt,ff,ff,ff,ff,ff,ff,ff,ff,ff,ff,ff,ff,ff,ff]) rfl (by kernel_rfl) (by kernel_rfl) (by kernel_rfl) rfl rfl (o_quoN (b := 64) rfl rfl (by omega)) ?_; refine th_take (i := 6) (listed' := #[tt,tt,tt,tt,tt,tt,tt,ff,ff,ff,ff,ff,ff,ff,ff,ff,ff,ff,ff,ff]) rfl (by kernel_rfl) (by kernel_rfl) (by kernel_rfl) rfl rfl (o_move (by conv => lhs; whnf)) ?_
        refine th_take (i := 7) (listed' := #[tt,tt,tt,tt,tt,tt,tt,tt,ff,ff,ff,ff,ff,ff,ff,ff,ff,ff,ff,ff]) rfl (by kernel_rfl) (by kernel_rfl) (by kernel_rfl) rfl rfl (o_nilCheck rfl) ?_; refine th_take (i := 8) (listed' := #[tt,tt,tt,tt,tt,tt,tt,tt,tt,ff,ff,ff,ff,ff,ff,ff,ff,ff,ff,ff]) rfl (by kernel_rfl) (by kernel_rfl) (by kernel_rfl) rfl rfl (o_fieldAddr (o := 1) Try.underlying91 rfl rfl sz89 rfl) ?_; refine th_take (i := 9) (listed' := #[tt,tt,tt,tt,tt,tt,tt,tt,tt,tt,ff,ff,ff,ff,ff,ff,ff,ff,ff,ff]) rfl (by kernel_rfl) (by kernel_rfl) (by kernel_rfl) rfl rfl (by first | exact o_load p89 rfl (by repeat (first | with_reducible exact has_here | with_reducible exact has_pt | apply has_left)) rfl | exact o_loadC p89 rfl (by assumption)) ?_; refine th_take (i := 10) (listed' := #[tt,tt,tt,tt,tt,tt,tt,tt,tt,tt,tt,ff,ff,ff,ff,ff,ff,ff,ff,ff]) rfl (by kernel_rfl) (by kernel_rfl) (by kernel_rfl) rfl rfl (o_move (by conv => lhs; whnf)) ?_; refine th_take (i := 11) (listed' := #[tt,tt,tt,tt,tt,tt,tt,tt,tt,tt,tt,tt,ff,ff,ff,ff,ff,ff,ff,ff]) rfl (by kernel_rfl) (by kernel_rfl) (by kernel_rfl) rfl rfl (o_quoN (b := 64) rfl rfl (by omega)) ?_; refine th_take (i := 12) (listed' := #[tt,tt,tt,tt,tt,tt,tt,tt,tt,tt,tt,tt,tt,ff,ff,ff,ff,ff,ff,ff]) rfl (by kernel_rfl) (by kernel_rfl) (by kernel_rfl) rfl rfl (o_ixP Try.underlying89 sz176 rfl rfl (by first | omega | (simp only [bys_length, ints_length, wds_length, bos_length, List.length_append, List.length_take, List.length_drop, List.length_singleton]; omega)) (by repeat (first | exact nn_some | with_reducible exact nn_sl (by decide) | exact nn_rs (by assumption) (fun _ => by first | omega | (simp only [bys_length, ints_length, wds_length, bos_length, List.length_append, List.length_take, List.length_drop, List.length_singleton]; omega)) | apply Nn.left))) ?_
        refine th_take (i := 13) (listed' := #[tt,tt,tt,tt,tt,tt,tt,tt,tt,tt,tt,tt,tt,tt,ff,ff,ff,ff,ff,ff]) rfl (by kernel_rfl) (by kernel_rfl) (by kernel_rfl) rfl rfl (o_faP (m := 0) (o := 0) Try.underlying176 rfl rfl sz33 rfl (by repeat (first | exact nn_some | with_reducible exact nn_sl (by decide) | exact nn_rs (by assumption) (fun _ => by first | omega | (simp only [bys_length, ints_length, wds_length, bos_length, List.length_append, List.length_take, List.length_drop, List.length_singleton]; omega)) | apply Nn.left))) ?_; refine th_one (i := 14) (by kernel_rfl) ?_; refine oh_v (i := 14) (listed' := #[tt,tt,tt,tt,tt,tt,tt,tt,tt,tt,tt,tt,tt,tt,tt,ff,ff,ff,ff,ff]) rfl rfl rfl (o_ldP p33 rfl (by repeat (first | assumption | with_reducible exact rs_sl | with_reducible exact rs_pt0 | exact rs_none | apply Rs.left)) g1) ?_; refine th_take (i := 15) (listed' := #[tt,tt,tt,tt,tt,tt,tt,tt,tt,tt,tt,tt,tt,tt,tt,tt,ff,ff,ff,ff]) rfl (by kernel_rfl) (by kernel_rfl) (by kernel_rfl) rfl rfl (o_len Try.underlying33 rfl) ?_; refine th_take (i := 16) (listed' := #[tt,tt,tt,tt,tt,tt,tt,tt,tt,tt,tt,tt,tt,tt,tt,tt,tt,ff,ff,ff]) rfl (by kernel_rfl) (by kernel_rfl) (by kernel_rfl) rfl rfl (by first | exact o_subI rfl rfl (by omega) | exact o_sub rfl rfl) ?_; refine th_take (i := 17) (listed' := #[tt,tt,tt,tt,tt,tt,tt,tt,tt,tt,tt,tt,tt,tt,tt,tt,tt,tt,ff,ff]) rfl (by kernel_rfl) (by kernel_rfl) (by kernel_rfl) rfl rfl (o_ixP Try.underlying89 sz176 rfl rfl (by first | omega | (simp only [bys_length, ints_length, wds_length, bos_length, List.length_append, List.length_take, List.length_drop, List.length_singleton]; omega)) (by repeat (first | exact nn_some | with_reducible exact nn_sl (by decide) | exact nn_rs (by assumption) (fun _ => by first | omega | (simp only [bys_length, ints_length, wds_length, bos_length, List.length_append, List.length_take, List.length_drop, List.length_singleton]; omega)) | apply Nn.left))) ?_
        refine th_take (i := 18) (listed' := #[tt,tt,tt,tt,tt,tt,tt,tt,tt,tt,tt,tt,tt,tt,tt,tt,tt,tt,tt,ff]) rfl (by kernel_rfl) (by kernel_rfl) (by kernel_rfl) rfl rfl (o_faP (m := 0) (o := 1) Try.underlying176 rfl rfl sz3 rfl (by repeat (first | exact nn_some | with_reducible exact nn_sl (by decide) | exact nn_rs (by assumption) (fun _ => by first | omega | (simp only [bys_length, ints_length, wds_length, bos_length, List.length_append, List.length_take, List.length_drop, List.length_singleton]; omega)) | apply Nn.left))) ?_; refine th_one (i := 19) (by kernel_rfl) ?_; refine oh_u (i := 19) (listed' := #[tt,tt,tt,tt,tt,tt,tt,tt,tt,tt,tt,tt,tt,tt,tt,tt,tt,tt,tt,tt]) rfl rfl rfl (o_stP (ys := (rls.set (q / 64) ⟨rls[q / 64].v, rls[q / 64].rows, (rls[q / 64].rows.length : Int) - 1⟩).flatMap rcl) sz3 rfl rfl rfl (by repeat (first | with_reducible exact ct_here | apply ct_left)) (by omega) (fm_set (f := rcl) (k := 2) (j := 1) (y := ⟨rls[q / 64].v, rls[q / 64].rows, (rls[q / 64].rows.length : Int) - 1⟩) (rcl_len _) hir (by decide) rfl rfl)) (by repeat (first | with_reducible exact dr_refl | apply dr_keep | apply dr_drop)) ?_; refine th_done (by kernel_rfl) ?_; refine q_then_n ?_; refine tc_seq ?_
        have hlf := onLine_fields flushL (q / 64) s
        refine tc_eq (hf2 F ⟨rls[q / 64].v, rls[q / 64].rows, (rls[q / 64].rows.length : Int) - 1⟩ (flushS q s) hlf.2.2.2.2 hlf.2.1 hlf.1 hlf.2.2.1 hlf.2.2.2.1) ?_
        refine tc_pre (rdev_back (flushS_wf hw) (by
          unfold flushS; rw [onLine_at hi, List.map_set, hmap]; congr 1
          have e := hR.at_ _ hir hi
          unfold flushL; rw [← e]; simp [RL.l]) (by rw [show (flushS q s).arms = s.arms from hlf.2.1]; exact hkv)) ?_
        refine tc_reg ?_; refine tlm ?_; refine tl_c rfl (o_call bd139 rfl (rdone_f F)) ?_; rintro _ _ ⟨rfl, rfl⟩; refine tla ?_; refine nq ?_; refine tc_ret ?_
        rw [e]
        exact ⟨.int .i64 (doneE (flushS q s)), F * RDev r (doneS (flushS q s)), res1 rfl rfl, Dr.sat (by repeat (first | with_reducible exact dr_refl | apply dr_keep | apply dr_drop)), rfl, rfl⟩
end Go.Vl

set_option linter.unusedVariables false
set_option linter.unusedSimpArgs false
namespace Go.Vl
open Go Go.Proofs
theorem stW_min {p n : Nat} {b : List Nat} {s : DevS} (h : n = min b.length (8 - p % 8)) : stW p (b.take n) s = stW p b s := by
  rcases Nat.le_total b.length (8 - p % 8) with h1 | h1
  · exact stW_take' (by omega)
  · exact stW_take (by omega)
theorem mpF_wf {i : Nat} {s : DevS} (h : WfD s) : WfD { s with ls := mp fenceL i s.ls } := ⟨by simp only [mp_length]; exact h.pos, by simp only [mp_length]; exact h.top, fun l hl => by
  obtain ⟨j, hj, rfl⟩ := List.mem_iff_getElem.1 hl
  simp only [mp, List.getElem_mapIdx]
  rw [mp_length] at hj
  split
  · exact fenceL_wf (h.line _ (List.getElem_mem _))
  · exact h.line _ (List.getElem_mem _), h.arms, h.after, h.keeps⟩
theorem acs_at0 {kvs : List Value} {ars : List (Int × List Int)} {i : Nat} (h : kvs.length = ars.length) (hi : i < ars.length) : (acs kvs ars)[i * 2 + 0]? = some (.int .i64 ars[i].1) := by
  have e := acs_at h hi
  have := congrArg (fun l => l[0]?) e
  simpa [List.getElem?_take, List.getElem?_drop] using this
theorem acs_at1 {kvs : List Value} {ars : List (Int × List Int)} {i : Nat} (h : kvs.length = ars.length) (hi : i < ars.length) : (acs kvs ars)[i * 2 + 1]? = some (kvs[i]'(by omega)) := by
  have e := acs_at h hi
  have := congrArg (fun l => l[1]?) e
  simpa [List.getElem?_take, List.getElem?_drop] using this
theorem rarm_back {F J : SP} {r : Nat} {lv : Value} {rls : List RL} {kvs : List Value} {v av : Value} {x : Int × List Int} {s : DevS} (hw : WfD { s with arms := s.arms ++ [x] }) (hmap : rls.map RL.l = s.ls) (hkv : kvs.length = s.arms.length) {g : Gh} {w : World}
    (hs : sat g w (F * KeepsR kvs s.arms * Bs rlR rls * Sl 2 lv s.ls.length (rls.flatMap rcl) * pt r (cl (rdcs lv s av) 91) * Sl 1 v x.2.length (ints x.2) * Sl 2 av (s.arms.length + 1) (acs kvs s.arms ++ [.int .i64 x.1, v]) * J)) : sat g w (F * RDev r { s with arms := s.arms ++ [x] }) := by
  have h1 := hs.left
  rw [star_swap] at h1
  have h2 := sl_share h1
  refine rdev_back (lv := lv) (rls := rls) (av := av) (kvs := kvs ++ [v]) hw hmap (by simp [hkv]) g w ?_; refine h2.perm ?_
  unfold RDevC ArmsR
  simp only [acs_snoc hkv, keepsR_snoc hkv, List.length_append, List.length_singleton]
  rw [show rdcs lv { s with arms := s.arms ++ [x] } av = rdcs lv s av from rfl]
  ac_rfl
attribute [local irreducible] Sl pt ro imgS
set_option maxRecDepth 20000 in
set_option maxHeartbeats 1000000 in
theorem rStoreW_f (F : SP) {a : Option Addr} {c m r : Nat} {p0 : Int} {s : DevS} {xs : List Nat} (hr : Rs F a (bys xs)) (hm : xs.length = m) (hmc : m ≤ c) (hb : ∀ x ∈ xs, x < 256) (hml : m ≤ 140737488351232) (hp : -9223372036854775808 ≤ p0 ∧ p0 ≤ 9223372036854775807) (hroom : rdy s.ls.length s.off p0 m = 0 → Room m s) :
    Fn Try.prog 138 #[.pointer (some ⟨r, 0, none⟩), .int .i64 p0, .slice a m c] (F * RDev r s) (fun v B => v = .int .i64 (sto p0 xs s).1 ∧ B = F * RDev r (sto p0 xs s).2) := by
  refine fn_enterW (args := [.pointer (some ⟨r, 0, none⟩), .int .i64 p0, .slice a m c]) Try.func138 rfl Try.ntmps138 (by simp) ?_; refine tc_rdev fun hw lv rls av kvs hmap hkv => ?_
  have hpos := hw.pos
  have htop := hw.top
  refine tc_have (fun _ _ h => rdevR_of hw hmap h) fun hR => ?_
  obtain ⟨bl, ol, cl_, rfl, hlc, hll⟩ := hR.lv
  have hlen := hR.len
  
  refine sr ?_; refine tla ?_; refine nq ?_; refine tc_seq ?_; refine sr ?_; refine tlm ?_; refine tv (o_nilCheck rfl) ?_; refine tv (o_fieldAddr (o := 5) Try.underlying91 rfl rfl sz4 rfl) ?_; refine tv (o_load p4 rfl (by repeat (first | exact rdevC_r | apply has_left)) rfl) ?_; refine nq ?_; refine tc_cond rfl (fun h => ?_) (fun h => ?_)
  · try simp only [lv1, lv2, lv3, lv4, lv5, lv6, Bool.not_true, Bool.not_false] at h
    refine sr ?_; refine tla ?_; refine nq ?_; refine tc_ret ?_; refine q_then_r ?_
    have e : sto p0 xs s = (5, s) := by unfold sto rdy; rw [h]; rfl
    rw [e]
    exact ⟨.int .i64 5, F * RDev r s, res1 rfl rfl, rdev_back hw hmap hkv, rfl, rfl⟩
  · have hoff : s.off = false := by simpa using h
    have e5 : rdy s.ls.length s.off p0 m = rdy s.ls.length false p0 m := by rw [hoff]
    refine tc_skip ?_; refine q_then_n ?_; refine tc_seq ?_; refine sr ?_; refine tlm ?_; refine tlm ?_; refine tlm ?_; refine tv (o_len Try.underlying28 rfl) ?_; refine tl_c rfl (o_call bd136 rfl (rinside_f _ hR hp (by omega))) ?_; rintro _ _ ⟨rfl, rfl⟩; refine tv (o_not rfl) ?_; refine nq ?_; refine tc_cond rfl (fun h => ?_) (fun h => ?_)
    · have hz : rdy s.ls.length s.off p0 m ≠ 0 := by rw [e5]; simpa using h
      have e : sto p0 xs s = (6, s) := by unfold sto; rw [hm, if_pos hz]; rw [e5] at hz ⊢; unfold rdy at hz ⊢; simp at hz ⊢; exact hz
      refine sr ?_; refine tla ?_; refine nq ?_; refine tc_ret ?_; refine q_then_r ?_
      rw [e]
      exact ⟨.int .i64 6, F * RDev r s, res1 rfl rfl, rdev_back hw hmap hkv, rfl, rfl⟩
    · have hz : rdy s.ls.length s.off p0 m = 0 := by rw [e5]; simpa using h
      obtain ⟨q, rfl⟩ := Int.eq_ofNat_of_zero_le (rdy0 hz).2.1
      have hr0 := rdy0 hz
      have hsto : sto (q : Int) xs s = storeF xs.length q xs s := by unfold sto; rw [hm, if_neg (by omega)]; rfl
      rw [hsto]
      refine tc_pre (rdev_back hw hmap hkv) ?_; refine tc_skip ?_; refine q_then_n ?_; refine sr ?_; refine tla ?_; refine nq ?_; refine tc_seq ?_; refine tc_block ?_; refine tc_loop (fun kk ρ BB => ∃ (k : Nat) (s1 : DevS), (k ≤ m) ∧ (storeF (xs.drop k).length (q + k) (xs.drop k) s1 = storeF xs.length q xs s) ∧ (Room (m - k) s1) ∧ (s1.ls.length = s.ls.length) ∧ kk = m - k ∧ ρ 7 = .int .i64 (k : Nat) ∧ ρ 0 = .pointer (some ⟨r, 0, none⟩) ∧ ρ 1 = .int .i64 (q : Nat) ∧ ρ 2 = .slice a m c ∧ BB = F * RDev r s1) (m := m - (0)) ?_ ?_
      · exact ⟨0, s, by omega, rfl, hroom hz, rfl, rfl, rfl, rfl, rfl, rfl, rfl⟩
      · intro k ρ B hI
        obtain ⟨k, s1, hp0, hp1, hp2, hp3, hkk1, hE7, hE0, hE1, hE2, rfl⟩ := hI
        refine tc_env (d := 7) hE7 ?_; refine tc_env (d := 0) hE0 ?_; refine tc_env (d := 1) hE1 ?_; refine tc_env (d := 2) hE2 ?_
        clear hE7 hE0 hE1 hE2
        refine tc_seq ?_; refine sr ?_; refine tlm ?_; refine tlm ?_; refine tv (o_len Try.underlying28 rfl) ?_; refine tv (o_lss rfl rfl) ?_; refine nq ?_; refine tc_cond rfl (fun h => ?_) (fun h => ?_)
        · have hk : k < m := by simp at h; omega
          have hb0 : xs.drop k ≠ [] := by intro e; have := congrArg List.length e; rw [List.length_drop] at this; simp at this; omega
          have hdl : (xs.drop k).length = m - k := by rw [List.length_drop]; omega
          refine tc_skip ?_; refine q_then_n ?_; refine tc_block ?_; refine sr ?_; refine tlm ?_; refine tlm ?_; refine tv (by first | exact o_addI rfl rfl (by omega) | exact o_add rfl rfl) ?_; refine tl_env (d := 26) (v := .int .i64 ((q + k : Nat) : Int)) (rfl) ?_; refine tv (o_remN (b := 8) rfl rfl (by omega)) ?_; refine tv (by first | exact o_subI rfl rfl (by omega) | exact o_sub rfl rfl) ?_; refine tl_env (d := 28) (v := .int .i64 ((8 - (q + k) % 8 : Nat) : Int)) (by show Value.int .i64 _ = _; congr 1; omega) ?_; refine tla ?_; refine nq ?_; refine tc_seq ?_; refine sr ?_; refine tlm ?_; refine tlm ?_; refine tv (o_len Try.underlying28 rfl) ?_; refine tlm ?_; refine tv (by first | exact o_subI rfl rfl (by omega) | exact o_sub rfl rfl) ?_; refine tv (o_gtr rfl rfl) ?_; refine nq ?_; refine tc_cut (fun ρ BB => ρ 8 = .int .i64 ((min (m - k) (8 - (q + k) % 8) : Nat) : Int) ∧ ρ 0 = .pointer (some ⟨r, 0, none⟩) ∧ ρ 1 = .int .i64 (q : Nat) ∧ ρ 2 = .slice a m c ∧ ρ 7 = .int .i64 (k : Nat) ∧ BB = F * RDev r s1) ?_ ?_
          · skip
            refine tc_cond rfl (fun h => ?_) (fun h => ?_)
            · try simp only [lv1, lv2, lv3, lv4, lv5, lv6, Bool.not_true, Bool.not_false] at h
              refine tc_reg ?_; refine tlm ?_; refine tv (o_len Try.underlying28 rfl) ?_; refine tlm ?_; refine tv (by first | exact o_subI rfl rfl (by omega) | exact o_sub rfl rfl) ?_; refine tla ?_; refine tl_nil ?_; exact ⟨(by (try simp at h); show Value.int .i64 _ = Value.int .i64 _; congr 1; omega), rfl, rfl, rfl, rfl, rfl⟩
            · try simp only [lv1, lv2, lv3, lv4, lv5, lv6, Bool.not_true, Bool.not_false] at h
              refine tc_skip ?_; exact ⟨(by (try simp at h); show Value.int .i64 _ = Value.int .i64 _; congr 1; omega), rfl, rfl, rfl, rfl, rfl⟩
          · intro ρ B hI
            obtain ⟨hE8, hE0, hE1, hE2, hE7, rfl⟩ := hI
            refine q_then_n ?_; refine tc_env (d := 8) hE8 ?_; refine tc_env (d := 0) hE0 ?_; refine tc_env (d := 1) hE1 ?_; refine tc_env (d := 2) hE2 ?_; refine tc_env (d := 7) hE7 ?_
            clear hE8 hE0 hE1 hE2 hE7
            refine sr ?_; refine tlm ?_; refine tlm ?_; refine tlm ?_; refine tv (by first | exact o_addI rfl rfl (by omega) | exact o_add rfl rfl) ?_; refine tl_env (d := 42) (v := .int .i64 ((q + k : Nat) : Int)) (rfl) ?_; refine tlm ?_; refine tlm ?_; refine tlm ?_; refine tlm ?_; refine tv (by first | exact o_addI rfl rfl (by omega) | exact o_add rfl rfl) ?_; refine tl_env (d := 47) (v := .int .i64 ((k + min (m - k) (8 - (q + k) % 8) : Nat) : Int)) (rfl) ?_; refine tv (o_slice (l := k) (h := k + min (m - k) (8 - (q + k) % 8)) Try.underlying28 sz5 rfl (bnd_nat rfl) (bnd_nat rfl) (by omega) (by omega)) ?_; refine tl_env (d := 48) (v := .slice (cutAddr a c k 1) (min (m - k) (8 - (q + k) % 8)) (c - k)) (by show Value.slice _ (k + min (m - k) (8 - (q + k) % 8) - k) _ = _; rw [Nat.add_sub_cancel_left]) ?_
            have hrm1 : Room 1 s1 := fun l hl => by have := hp2 l hl; omega
            refine tl_c rfl (o_call bd137 rfl (rword_c (p := q + k) (xs := ((xs.drop k).take (min (m - k) (8 - (q + k) % 8)))) (hr := rs_mid hr (by omega)) (hm := by rw [List.length_take, hdl]; omega) (hx := by omega) (hb := fun x hx => hb x (List.mem_of_mem_drop (List.mem_of_mem_take hx))) (hi := by omega))) ?_; rintro _ _ ⟨rfl, rfl⟩
            rw [stW_min (p := q + k) (b := xs.drop k) (by rw [hdl])]
            refine tla ?_; refine nq ?_; refine tc_seq ?_; refine sr ?_; refine tlm ?_; refine tv (o_nei rfl rfl) ?_; refine nq ?_; refine tc_cond rfl (fun h => ?_) (fun h => ?_)
            · have h : doneE (layS (q + k - (q + k) % 8) (nm (stW (q + k) (xs.drop k) s1)) s1) ≠ 0 := by simpa using h
              have e : storeF xs.length q xs s = (doneE (layS (q + k - (q + k) % 8) (nm (stW (q + k) (xs.drop k) s1)) s1), doneS (layS (q + k - (q + k) % 8) (nm (stW (q + k) (xs.drop k) s1)) s1)) := by rw [← hp1, storeF_step hb0, if_pos h]
              refine sr ?_; refine tlm ?_; refine tla ?_; refine nq ?_; refine tc_ret ?_; refine q_then_r (q_block_r (q_then_r (q_block_r (q_then_r ?_))))
              first
              | (rw [e]; exact ⟨.int .i64 (doneE (layS (q + k - (q + k) % 8) (nm (stW (q + k) (xs.drop k) s1)) s1)), F * RDev r (doneS (layS (q + k - (q + k) % 8) (nm (stW (q + k) (xs.drop k) s1)) s1)), res1 rfl rfl, Dr.sat (by repeat (first | with_reducible exact dr_refl | apply dr_keep | apply dr_drop)), rfl, rfl⟩)
              | (obtain rfl : k = m := by omega
                 have e : storeF xs.length q xs s = (0, s1) := by rw [← hp1, List.drop_of_length_le (by omega), storeF_nil]
                 rw [e]; exact ⟨.int .i64 0, F * RDev r s1, res1 rfl rfl, fun _ _ h => h, rfl, rfl⟩)
            · have h : doneE (layS (q + k - (q + k) % 8) (nm (stW (q + k) (xs.drop k) s1)) s1) = 0 := by simpa using h
              obtain ⟨hd1, hd2⟩ := doneE_ok h
              have hdd : (xs.drop k).drop (8 - (q + k) % 8) = xs.drop (k + min (m - k) (8 - (q + k) % 8)) := by
                rw [List.drop_drop]
                rcases Nat.le_total (m - k) (8 - (q + k) % 8) with h | h
                · rw [Nat.min_eq_left h, List.drop_of_length_le (by omega), List.drop_of_length_le (by omega)]
                · rw [Nat.min_eq_right h]
              have hstep : storeF (xs.drop (k + min (m - k) (8 - (q + k) % 8))).length (q + (k + min (m - k) (8 - (q + k) % 8))) (xs.drop (k + min (m - k) (8 - (q + k) % 8))) (doneS (layS (q + k - (q + k) % 8) (nm (stW (q + k) (xs.drop k) s1)) s1)) = storeF xs.length q xs s := by
                rw [← hp1, storeF_step hb0, if_neg (by simpa using h), hdd, hdl, ← Nat.add_assoc]
              have hrm2 : Room (m - (k + min (m - k) (8 - (q + k) % 8))) (doneS (layS (q + k - (q + k) % 8) (nm (stW (q + k) (xs.drop k) s1)) s1)) := fun l hl => by
                rw [hd2] at hl
                have h1 : Room ((m - k - 1) + 1) s1 := fun l hl => by have := hp2 l hl; omega
                have := onLine_room (f := layL ((q + k - (q + k) % 8) % 64 / 8) (nm (stW (q + k) (xs.drop k) s1))) (i := (q + k - (q + k) % 8) / 64) h1 (fun l => by simp [layL]) l hl
                omega
              refine tc_skip ?_; refine q_then_n ?_; refine tc_reg ?_; refine tlm ?_; refine tlm ?_; refine tv (by first | exact o_addI rfl rfl (by omega) | exact o_add rfl rfl) ?_; refine tla ?_; refine tl_nil ?_; refine q_block_n (q_then_n ?_); exact ⟨_, by omega, k + min (m - k) (8 - (q + k) % 8), _, by omega, hstep, hrm2, by rw [hd2, layS_len]; exact hp3, rfl, rfl, rfl, rfl, rfl, rfl⟩
        · try simp only [lv1, lv2, lv3, lv4, lv5, lv6, Bool.not_true, Bool.not_false] at h
          refine tc_exit ?_; refine q_then_e (q_then_e (q_block_x (q_then_n ?_))); refine sr ?_; refine tla ?_; refine nq ?_; refine tc_ret ?_
          first
          | (rw [e]; exact ⟨.int .i64 (doneE (layS (q + k - (q + k) % 8) (nm (stW (q + k) (xs.drop k) s1)) s1)), F * RDev r (doneS (layS (q + k - (q + k) % 8) (nm (stW (q + k) (xs.drop k) s1)) s1)), res1 rfl rfl, Dr.sat (by repeat (first | with_reducible exact dr_refl | apply dr_keep | apply dr_drop)), rfl, rfl⟩)
          | (obtain rfl : k = m := by omega
             have e : storeF xs.length q xs s = (0, s1) := by rw [← hp1, List.drop_of_length_le (by omega), storeF_nil]
             rw [e]; exact ⟨.int .i64 0, F * RDev r s1, res1 rfl rfl, fun _ _ h => h, rfl, rfl⟩)
set_option maxRecDepth 20000 in
set_option maxHeartbeats 1000000 in
theorem rFence_f (F : SP) {r : Nat} {s : DevS} :
    Fn Try.prog 110 #[.pointer (some ⟨r, 0, none⟩)] (F * RDev r s) (fun v B => v = .int .i64 (fe s).1 ∧ B = F * RDev r (fe s).2) := by
  refine fn_enterW (args := [.pointer (some ⟨r, 0, none⟩)]) Try.func110 rfl Try.ntmps110 (by simp) ?_; refine tc_rdev fun hw lv rls av kvs hmap hkv => ?_
  have hpos := hw.pos
  have htop := hw.top
  refine tc_have (fun _ _ h => rdevR_of hw hmap h) fun hR => ?_
  obtain ⟨bl, ol, cl_, rfl, hlc, hll⟩ := hR.lv
  have hlen := hR.len
  
  refine sr ?_; refine tla ?_; refine nq ?_; refine tc_seq ?_; refine sr ?_; refine tlm ?_; refine tv (o_nilCheck rfl) ?_; refine tv (o_fieldAddr (o := 5) Try.underlying91 rfl rfl sz4 rfl) ?_; refine tv (o_load p4 rfl (by repeat (first | exact rdevC_r | apply has_left)) rfl) ?_; refine nq ?_; refine tc_cond rfl (fun h => ?_) (fun h => ?_)
  · try simp only [lv1, lv2, lv3, lv4, lv5, lv6, Bool.not_true, Bool.not_false] at h
    refine sr ?_; refine tla ?_; refine nq ?_; refine tc_ret ?_; refine q_then_r ?_
    have e : fe s = (5, s) := by unfold fe; rw [if_pos h]
    rw [e]
    exact ⟨.int .i64 5, F * RDev r s, res1 rfl rfl, rdev_back hw hmap hkv, rfl, rfl⟩
  · have hoff : s.off = false := by simpa using h
    have e : fe s = (doneE (fenceS s), doneS (fenceS s)) := by unfold fe; rw [if_neg (by rw [hoff]; decide)]
    rw [e]
    refine tc_skip ?_; refine q_then_n ?_; refine tc_seq ?_; refine sr ?_; refine tla ?_; refine nq ?_; refine tc_block ?_; refine tc_loop (fun kk ρ BB => ∃ (i : Nat) (rls1 : List RL), (i ≤ s.ls.length) ∧ (rls1.map RL.l = mp fenceL i s.ls) ∧ kk = s.ls.length - i ∧ ρ 3 = .int .i64 (i : Nat) ∧ ρ 0 = .pointer (some ⟨r, 0, none⟩) ∧ BB = F * RDevC r (.slice (some ⟨bl, ol, none⟩) s.ls.length cl_) rls1 av kvs { s with ls := mp fenceL i s.ls }) (m := s.ls.length - (0)) ?_ ?_
    · exact ⟨0, rls, by omega, by rw [mp_zero]; exact hmap, rfl, rfl, rfl, by rw [mp_zero]⟩
    · intro k ρ B hI
      obtain ⟨i, rls1, hp0, hp1, hkk1, hE3, hE0, rfl⟩ := hI
      refine tc_env (d := 3) hE3 ?_; refine tc_env (d := 0) hE0 ?_
      clear hE3 hE0
      refine tc_seq ?_; refine sr ?_; refine tlm ?_; refine tlm ?_; refine tv (o_nilCheck rfl) ?_; refine tv (o_fieldAddr (o := 1) Try.underlying91 rfl rfl sz89 rfl) ?_; refine tv (o_load p89 rfl (by repeat (first | exact rdevC_r | apply has_left)) rfl) ?_; refine tv (o_len Try.underlying89 rfl) ?_; refine tv (o_lss rfl rfl) ?_; refine nq ?_; refine tc_cond rfl (fun h => ?_) (fun h => ?_)
      · have hi : i < s.ls.length := by simp at h; omega
        have hgl : (mp fenceL i s.ls).length = s.ls.length := mp_length _ _ _
        refine tc_have (fun _ _ h => rdevR_of (mpF_wf hw) hp1 h) fun hR1 => ?_
        have hir : i < rls1.length := by rw [hR1.len, hgl]; exact hi
        obtain ⟨ba, oa, ca, g1, hca, har⟩ := hR1.allC hir
        have hll1 := hR1.lvR
        have hsm := hR1.small hir
        have hps := hR1.pos hir
        have g2 := rcl_at1 hir
        have hwl := (mpF_wf (i := i) hw).line _ (List.getElem_mem (show i < (mp fenceL i s.ls).length by omega))
        have hmk := hR1.mark hir (show i < (mp fenceL i s.ls).length by omega)
        have hrl := hR1.rows hir (show i < (mp fenceL i s.ls).length by omega)
        have hlo := hwl.lo
        have hhi := hwl.hi
        have hat := mp_at fenceL hi
        have hla := hR1.at_ _ hir (show i < (mp fenceL i s.ls).length by omega)
        simp only [hat] at hmk hrl hlo hhi hla
        rw [← hmk] at hlo hhi
        rw [← hrl] at hhi
        refine tc_skip ?_; refine q_then_n ?_; refine tc_seq ?_; refine tc_block ?_; refine sr ?_; refine tlm ?_; refine tv (o_nilCheck rfl) ?_; refine tv (o_fieldAddr (o := 1) Try.underlying91 rfl rfl sz89 rfl) ?_; refine tv (o_load p89 rfl (by repeat (first | exact rdevC_r | apply has_left)) rfl) ?_; refine tlm ?_; refine tv (o_ixP Try.underlying89 sz176 rfl rfl (by first | omega | (simp only [bys_length, ints_length, wds_length, bos_length, List.length_append, List.length_take, List.length_drop, List.length_singleton]; omega)) (by repeat (first | exact nn_some | with_reducible exact nn_sl (by decide) | exact nn_rs (by assumption) (fun _ => by first | omega | (simp only [bys_length, ints_length, wds_length, bos_length, List.length_append, List.length_take, List.length_drop, List.length_singleton]; omega)) | apply Nn.left))) ?_; refine tv (o_faP (m := 0) (o := 1) Try.underlying176 rfl rfl sz3 rfl (by repeat (first | exact nn_some | with_reducible exact nn_sl (by decide) | exact nn_rs (by assumption) (fun _ => by first | omega | (simp only [bys_length, ints_length, wds_length, bos_length, List.length_append, List.length_take, List.length_drop, List.length_singleton]; omega)) | apply Nn.left))) ?_; refine tv (o_ldP p3 rfl hll1 g2) ?_; refine tv (o_geq rfl rfl) ?_; refine nq ?_; refine tc_cond rfl (fun h => ?_) (fun h => ?_)
        · have h0 : 0 ≤ rls1[i].mark := by simpa using h
          refine tc_seq ?_
          obtain ⟨R, hf1, hf2⟩ := rdevC_focus (r := r) (lv := (.slice (some ⟨bl, ol, none⟩) s.ls.length cl_)) (av := av) (kvs := kvs) (s := { s with ls := mp fenceL i s.ls }) (n := s.ls.length) hir hgl
          refine tc_eq (hf1 F) ?_
          have hv0 : rls1[i].v = .slice (some ⟨ba, oa, none⟩) rls1[i].rows.length ca := by rw [rcl_at0 hir] at g1; exact Option.some.inj g1
          rw [hv0]
          refine tc_regh (S := F * R * pt r (cl (rdcs (.slice (some ⟨bl, ol, none⟩) s.ls.length cl_) { s with ls := mp fenceL i s.ls } av) 91) * Bs rowR rls1[i].rows) mo (by repeat (first | with_reducible exact dr_refl | apply dr_keep | apply dr_drop)) ?_
          show TH _ _ _ _ _ 25 #[ff,ff,ff,ff,ff,ff,ff,ff,ff,ff,ff,ff,ff,ff,ff,ff,ff,ff,ff,ff,ff,ff,ff,ff,ff] _ _
          refine th_take (i := 0) (listed' := #[tt,ff,ff,ff,ff,ff,ff,ff,ff,ff,ff,ff,ff,ff,ff,ff,ff,ff,ff,ff,ff,ff,ff,ff,ff]) rfl (by kernel_rfl) (by kernel_rfl) (by kernel_rfl) rfl rfl (o_move (by conv => lhs; whnf)) ?_; refine th_take (i := 1) (listed' := #[tt,tt,ff,ff,ff,ff,ff,ff,ff,ff,ff,ff,ff,ff,ff,ff,ff,ff,ff,ff,ff,ff,ff,ff,ff]) rfl (by kernel_rfl) (by kernel_rfl) (by kernel_rfl) rfl rfl (o_nilCheck rfl) ?_; refine th_take (i := 2) (listed' := #[tt,tt,tt,ff,ff,ff,ff,ff,ff,ff,ff,ff,ff,ff,ff,ff,ff,ff,ff,ff,ff,ff,ff,ff,ff]) rfl (by kernel_rfl) (by kernel_rfl) (by kernel_rfl) rfl rfl (o_fieldAddr (o := 1) Try.underlying91 rfl rfl sz89 rfl) ?_; refine th_take (i := 3) (listed' := #[tt,tt,tt,tt,ff,ff,ff,ff,ff,ff,ff,ff,ff,ff,ff,ff,ff,ff,ff,ff,ff,ff,ff,ff,ff]) rfl (by kernel_rfl) (by kernel_rfl) (by kernel_rfl) rfl rfl (by first | exact o_load p89 rfl (by repeat (first | with_reducible exact has_here | with_reducible exact has_pt | apply has_left)) rfl | exact o_loadC p89 rfl (by assumption)) ?_; refine th_take (i := 4) (listed' := #[tt,tt,tt,tt,tt,ff,ff,ff,ff,ff,ff,ff,ff,ff,ff,ff,ff,ff,ff,ff,ff,ff,ff,ff,ff]) rfl (by kernel_rfl) (by kernel_rfl) (by kernel_rfl) rfl rfl (o_move (by conv => lhs; whnf)) ?_; refine th_take (i := 5) (listed' := #[tt,tt,tt,tt,tt,tt,ff,ff,ff,ff,ff,ff,ff,ff,ff,ff,ff,ff,ff,ff,ff,ff,ff,ff,ff]) rfl (by kernel_rfl) (by kernel_rfl) (by kernel_rfl) rfl rfl (o_move (by conv => lhs; whnf)) ?_; refine th_take (i := 6) (listed' := #[tt,tt,tt,tt,tt,tt,tt,ff,ff,ff,ff,ff,ff,ff,ff,ff,ff,ff,ff,ff,ff,ff,ff,ff,ff]) rfl (by kernel_rfl) (by kernel_rfl) (by kernel_rfl) rfl rfl (o_nilCheck rfl) ?_
          refine th_take (i := 7) (listed' := #[tt,tt,tt,tt,tt,tt,tt,tt,ff,ff,ff,ff,ff,ff,ff,ff,ff,ff,ff,ff,ff,ff,ff,ff,ff]) rfl (by kernel_rfl) (by kernel_rfl) (by kernel_rfl) rfl rfl (o_fieldAddr (o := 1) Try.underlying91 rfl rfl sz89 rfl) ?_; refine th_take (i := 8) (listed' := #[tt,tt,tt,tt,tt,tt,tt,tt,tt,ff,ff,ff,ff,ff,ff,ff,ff,ff,ff,ff,ff,ff,ff,ff,ff]) rfl (by kernel_rfl) (by kernel_rfl) (by kernel_rfl) rfl rfl (by first | exact o_load p89 rfl (by repeat (first | with_reducible exact has_here | with_reducible exact has_pt | apply has_left)) rfl | exact o_loadC p89 rfl (by assumption)) ?_; refine th_take (i := 9) (listed' := #[tt,tt,tt,tt,tt,tt,tt,tt,tt,tt,ff,ff,ff,ff,ff,ff,ff,ff,ff,ff,ff,ff,ff,ff,ff]) rfl (by kernel_rfl) (by kernel_rfl) (by kernel_rfl) rfl rfl (o_move (by conv => lhs; whnf)) ?_; refine th_take (i := 10) (listed' := #[tt,tt,tt,tt,tt,tt,tt,tt,tt,tt,tt,ff,ff,ff,ff,ff,ff,ff,ff,ff,ff,ff,ff,ff,ff]) rfl (by kernel_rfl) (by kernel_rfl) (by kernel_rfl) rfl rfl (o_ixP Try.underlying89 sz176 rfl rfl (by first | omega | (simp only [bys_length, ints_length, wds_length, bos_length, List.length_append, List.length_take, List.length_drop, List.length_singleton]; omega)) (by repeat (first | exact nn_some | with_reducible exact nn_sl (by decide) | exact nn_rs (by assumption) (fun _ => by first | omega | (simp only [bys_length, ints_length, wds_length, bos_length, List.length_append, List.length_take, List.length_drop, List.length_singleton]; omega)) | apply Nn.left))) ?_
          refine th_take (i := 11) (listed' := #[tt,tt,tt,tt,tt,tt,tt,tt,tt,tt,tt,tt,ff,ff,ff,ff,ff,ff,ff,ff,ff,ff,ff,ff,ff]) rfl (by kernel_rfl) (by kernel_rfl) (by kernel_rfl) rfl rfl (o_faP (m := 0) (o := 0) Try.underlying176 rfl rfl sz33 rfl (by repeat (first | exact nn_some | with_reducible exact nn_sl (by decide) | exact nn_rs (by assumption) (fun _ => by first | omega | (simp only [bys_length, ints_length, wds_length, bos_length, List.length_append, List.length_take, List.length_drop, List.length_singleton]; omega)) | apply Nn.left))) ?_; refine th_take (i := 13) (listed' := #[tt,tt,tt,tt,tt,tt,tt,tt,tt,tt,tt,tt,ff,tt,ff,ff,ff,ff,ff,ff,ff,ff,ff,ff,ff]) rfl (by kernel_rfl) (by kernel_rfl) (by kernel_rfl) rfl rfl (o_move (by conv => lhs; whnf)) ?_; refine th_take (i := 14) (listed' := #[tt,tt,tt,tt,tt,tt,tt,tt,tt,tt,tt,tt,ff,tt,tt,ff,ff,ff,ff,ff,ff,ff,ff,ff,ff]) rfl (by kernel_rfl) (by kernel_rfl) (by kernel_rfl) rfl rfl (o_nilCheck rfl) ?_; refine th_take (i := 15) (listed' := #[tt,tt,tt,tt,tt,tt,tt,tt,tt,tt,tt,tt,ff,tt,tt,tt,ff,ff,ff,ff,ff,ff,ff,ff,ff]) rfl (by kernel_rfl) (by kernel_rfl) (by kernel_rfl) rfl rfl (o_fieldAddr (o := 1) Try.underlying91 rfl rfl sz89 rfl) ?_; refine th_take (i := 16) (listed' := #[tt,tt,tt,tt,tt,tt,tt,tt,tt,tt,tt,tt,ff,tt,tt,tt,tt,ff,ff,ff,ff,ff,ff,ff,ff]) rfl (by kernel_rfl) (by kernel_rfl) (by kernel_rfl) rfl rfl (by first | exact o_load p89 rfl (by repeat (first | with_reducible exact has_here | with_reducible exact has_pt | apply has_left)) rfl | exact o_loadC p89 rfl (by assumption)) ?_
          refine th_take (i := 17) (listed' := #[tt,tt,tt,tt,tt,tt,tt,tt,tt,tt,tt,tt,ff,tt,tt,tt,tt,tt,ff,ff,ff,ff,ff,ff,ff]) rfl (by kernel_rfl) (by kernel_rfl) (by kernel_rfl) rfl rfl (o_move (by conv => lhs; whnf)) ?_; refine th_take (i := 18) (listed' := #[tt,tt,tt,tt,tt,tt,tt,tt,tt,tt,tt,tt,ff,tt,tt,tt,tt,tt,tt,ff,ff,ff,ff,ff,ff]) rfl (by kernel_rfl) (by kernel_rfl) (by kernel_rfl) rfl rfl (o_ixP Try.underlying89 sz176 rfl rfl (by first | omega | (simp only [bys_length, ints_length, wds_length, bos_length, List.length_append, List.length_take, List.length_drop, List.length_singleton]; omega)) (by repeat (first | exact nn_some | with_reducible exact nn_sl (by decide) | exact nn_rs (by assumption) (fun _ => by first | omega | (simp only [bys_length, ints_length, wds_length, bos_length, List.length_append, List.length_take, List.length_drop, List.length_singleton]; omega)) | apply Nn.left))) ?_; refine th_take (i := 19) (listed' := #[tt,tt,tt,tt,tt,tt,tt,tt,tt,tt,tt,tt,ff,tt,tt,tt,tt,tt,tt,tt,ff,ff,ff,ff,ff]) rfl (by kernel_rfl) (by kernel_rfl) (by kernel_rfl) rfl rfl (o_faP (m := 0) (o := 1) Try.underlying176 rfl rfl sz3 rfl (by repeat (first | exact nn_some | with_reducible exact nn_sl (by decide) | exact nn_rs (by assumption) (fun _ => by first | omega | (simp only [bys_length, ints_length, wds_length, bos_length, List.length_append, List.length_take, List.length_drop, List.length_singleton]; omega)) | apply Nn.left))) ?_; refine th_two (i := 12) (j := 20) (by kernel_rfl) ?_ ?_
          · skip
            refine oh_v (i := 12) (listed' := #[tt,tt,tt,tt,tt,tt,tt,tt,tt,tt,tt,tt,tt,tt,tt,tt,tt,tt,tt,tt,ff,ff,ff,ff,ff]) rfl rfl rfl (o_ldP p33 rfl (by repeat (first | assumption | with_reducible exact rs_sl | with_reducible exact rs_pt0 | exact rs_none | apply Rs.left)) g1) ?_; refine th_one (i := 20) (by kernel_rfl) ?_; refine oh_v (i := 20) (listed' := #[tt,tt,tt,tt,tt,tt,tt,tt,tt,tt,tt,tt,tt,tt,tt,tt,tt,tt,tt,tt,tt,ff,ff,ff,ff]) rfl rfl rfl (o_ldP p3 rfl (by repeat (first | assumption | with_reducible exact rs_sl | with_reducible exact rs_pt0 | exact rs_none | apply Rs.left)) g2) ?_; refine th_take (i := 21) (listed' := #[tt,tt,tt,tt,tt,tt,tt,tt,tt,tt,tt,tt,tt,tt,tt,tt,tt,tt,tt,tt,tt,tt,ff,ff,ff]) rfl (by kernel_rfl) (by kernel_rfl) (by kernel_rfl) rfl rfl (o_slice Try.underlying33 sz28 rfl (bnd_some rfl (by omega)) bnd_none (by omega) (by omega)) ?_; refine th_take (i := 22) (listed' := #[tt,tt,tt,tt,tt,tt,tt,tt,tt,tt,tt,tt,tt,tt,tt,tt,tt,tt,tt,tt,tt,tt,tt,ff,ff]) rfl (by kernel_rfl) (by kernel_rfl) (by kernel_rfl) rfl rfl (o_ixP Try.underlying89 sz176 rfl rfl (by first | omega | (simp only [bys_length, ints_length, wds_length, bos_length, List.length_append, List.length_take, List.length_drop, List.length_singleton]; omega)) (by repeat (first | exact nn_some | with_reducible exact nn_sl (by decide) | exact nn_rs (by assumption) (fun _ => by first | omega | (simp only [bys_length, ints_length, wds_length, bos_length, List.length_append, List.length_take, List.length_drop, List.length_singleton]; omega)) | apply Nn.left))) ?_
            refine th_take (i := 23) (listed' := #[tt,tt,tt,tt,tt,tt,tt,tt,tt,tt,tt,tt,tt,tt,tt,tt,tt,tt,tt,tt,tt,tt,tt,tt,ff]) rfl (by kernel_rfl) (by kernel_rfl) (by kernel_rfl) rfl rfl (o_faP (m := 0) (o := 0) Try.underlying176 rfl rfl sz33 rfl (by repeat (first | exact nn_some | with_reducible exact nn_sl (by decide) | exact nn_rs (by assumption) (fun _ => by first | omega | (simp only [bys_length, ints_length, wds_length, bos_length, List.length_append, List.length_take, List.length_drop, List.length_singleton]; omega)) | apply Nn.left))) ?_; refine th_one (i := 24) (by kernel_rfl) ?_; refine oh_u (i := 24) (listed' := #[tt,tt,tt,tt,tt,tt,tt,tt,tt,tt,tt,tt,tt,tt,tt,tt,tt,tt,tt,tt,tt,tt,tt,tt,tt]) rfl rfl rfl (o_stP (ys := (rls1.set i ⟨.slice (cutAddr (some ⟨ba, oa, none⟩) ca rls1[i].mark.toNat 1) (rls1[i].rows.length - rls1[i].mark.toNat) (ca - rls1[i].mark.toNat), rls1[i].rows.drop rls1[i].mark.toNat, rls1[i].mark⟩).flatMap rcl) sz33 rfl rfl rfl (by repeat (first | with_reducible exact ct_here | apply ct_left)) (by omega) (fm_set (f := rcl) (k := 2) (j := 0) (y := ⟨.slice (cutAddr (some ⟨ba, oa, none⟩) ca rls1[i].mark.toNat 1) (rls1[i].rows.length - rls1[i].mark.toNat) (ca - rls1[i].mark.toNat), rls1[i].rows.drop rls1[i].mark.toNat, rls1[i].mark⟩) (rcl_len _) hir (by decide) rfl rfl)) (by repeat (first | with_reducible exact dr_refl | apply dr_keep | apply dr_drop)) ?_; refine th_done (by kernel_rfl) ?_; refine q_then_n ?_
            have hir2 : i < (rls1.set i ⟨.slice (cutAddr (some ⟨ba, oa, none⟩) ca rls1[i].mark.toNat 1) (rls1[i].rows.length - rls1[i].mark.toNat) (ca - rls1[i].mark.toNat), rls1[i].rows.drop rls1[i].mark.toNat, rls1[i].mark⟩).length := by rw [List.length_set]; exact hir
            refine tc_reg ?_; refine tlm ?_; refine tv (o_nilCheck rfl) ?_; refine tv (o_fieldAddr (o := 1) Try.underlying91 rfl rfl sz89 rfl) ?_; refine tv (by first | exact o_load p89 rfl (by repeat (first | with_reducible exact has_here | with_reducible exact has_pt | apply has_left)) rfl | exact o_loadC p89 rfl (by assumption)) ?_; refine tlm ?_; refine tv (o_ixP Try.underlying89 sz176 rfl rfl (by first | omega | (simp only [bys_length, ints_length, wds_length, bos_length, List.length_append, List.length_take, List.length_drop, List.length_singleton]; omega)) (by repeat (first | exact nn_some | with_reducible exact nn_sl (by decide) | exact nn_rs (by assumption) (fun _ => by first | omega | (simp only [bys_length, ints_length, wds_length, bos_length, List.length_append, List.length_take, List.length_drop, List.length_singleton]; omega)) | apply Nn.left))) ?_; refine tv (o_faP (m := 0) (o := 1) Try.underlying176 rfl rfl sz3 rfl (by repeat (first | exact nn_some | with_reducible exact nn_sl (by decide) | exact nn_rs (by assumption) (fun _ => by first | omega | (simp only [bys_length, ints_length, wds_length, bos_length, List.length_append, List.length_take, List.length_drop, List.length_singleton]; omega)) | apply Nn.left))) ?_; refine tl_u rfl (o_stP (ys := (rls1.set i ⟨.slice (cutAddr (some ⟨ba, oa, none⟩) ca rls1[i].mark.toNat 1) (rls1[i].rows.length - rls1[i].mark.toNat) (ca - rls1[i].mark.toNat), rls1[i].rows.drop rls1[i].mark.toNat, -1⟩).flatMap rcl) sz3 rfl rfl rfl (by repeat (first | with_reducible exact ct_here | apply ct_left)) (by omega) ((fm_set (f := rcl) (k := 2) (j := 1) (y := ⟨.slice (cutAddr (some ⟨ba, oa, none⟩) ca rls1[i].mark.toNat 1) (rls1[i].rows.length - rls1[i].mark.toNat) (ca - rls1[i].mark.toNat), rls1[i].rows.drop rls1[i].mark.toNat, -1⟩) (rcl_len _) hir2 (by decide) rfl (by rw [List.getElem_set_self]; rfl)).trans (by rw [List.set_set]))) ?_
            have hnext : (rls1.set i ⟨.slice (cutAddr (some ⟨ba, oa, none⟩) ca rls1[i].mark.toNat 1) (rls1[i].rows.length - rls1[i].mark.toNat) (ca - rls1[i].mark.toNat), rls1[i].rows.drop rls1[i].mark.toNat, -1⟩).map RL.l = mp fenceL (i + 1) s.ls := by
              rw [List.map_set, hp1, ← mp_set fenceL hi]
              congr 1
              unfold fenceL
              rw [if_pos (by rw [← hmk]; exact h0), ← hmk, ← hla]
              simp [RL.l, List.map_drop]
            refine tl_pre (A' := F * RDevC r (.slice (some ⟨bl, ol, none⟩) s.ls.length cl_) (rls1.set i ⟨.slice (cutAddr (some ⟨ba, oa, none⟩) ca rls1[i].mark.toNat 1) (rls1[i].rows.length - rls1[i].mark.toNat) (ca - rls1[i].mark.toNat), rls1[i].rows.drop rls1[i].mark.toNat, -1⟩) av kvs { s with ls := mp fenceL (i + 1) s.ls }) (fun _ _ h => ?_) ?_
            · rw [← hf2 F ⟨.slice (cutAddr (some ⟨ba, oa, none⟩) ca rls1[i].mark.toNat 1) (rls1[i].rows.length - rls1[i].mark.toNat) (ca - rls1[i].mark.toNat), rls1[i].rows.drop rls1[i].mark.toNat, -1⟩ { s with ls := mp fenceL (i + 1) s.ls } (mp_length _ _ _) rfl rfl rfl rfl]
              have h1 := sl_cut (l := rls1[i].mark.toNat) (h.perm (star_swap _ _ _)) (by omega)
              rw [bs_split _ rls1[i].mark.toNat] at h1
              simp only [List.length_drop, List.map_drop, Nat.mul_one] at h1 ⊢
              exact (h1.perm (show _ = _ * Bs rowR (rls1[i].rows.take rls1[i].mark.toNat) by ac_rfl)).left
            refine tl_nil ?_; refine q_block_n (q_then_n ?_); refine tc_reg ?_; refine tlm ?_; refine tv (by first | exact o_addI rfl rfl (by omega) | exact o_add rfl rfl) ?_; refine tla ?_; refine nq ?_; exact ⟨_, by omega, i + 1, _, by omega, hnext, rfl, rfl, rfl, rfl⟩
          · skip
            refine oh_v (i := 20) (listed' := #[tt,tt,tt,tt,tt,tt,tt,tt,tt,tt,tt,tt,ff,tt,tt,tt,tt,tt,tt,tt,tt,ff,ff,ff,ff]) rfl rfl rfl (o_ldP p3 rfl (by repeat (first | assumption | with_reducible exact rs_sl | with_reducible exact rs_pt0 | exact rs_none | apply Rs.left)) g2) ?_; refine th_one (i := 12) (by kernel_rfl) ?_; refine oh_v (i := 12) (listed' := #[tt,tt,tt,tt,tt,tt,tt,tt,tt,tt,tt,tt,tt,tt,tt,tt,tt,tt,tt,tt,tt,ff,ff,ff,ff]) rfl rfl rfl (o_ldP p33 rfl (by repeat (first | assumption | with_reducible exact rs_sl | with_reducible exact rs_pt0 | exact rs_none | apply Rs.left)) g1) ?_; refine th_take (i := 21) (listed' := #[tt,tt,tt,tt,tt,tt,tt,tt,tt,tt,tt,tt,tt,tt,tt,tt,tt,tt,tt,tt,tt,tt,ff,ff,ff]) rfl (by kernel_rfl) (by kernel_rfl) (by kernel_rfl) rfl rfl (o_slice Try.underlying33 sz28 rfl (bnd_some rfl (by omega)) bnd_none (by omega) (by omega)) ?_; refine th_take (i := 22) (listed' := #[tt,tt,tt,tt,tt,tt,tt,tt,tt,tt,tt,tt,tt,tt,tt,tt,tt,tt,tt,tt,tt,tt,tt,ff,ff]) rfl (by kernel_rfl) (by kernel_rfl) (by kernel_rfl) rfl rfl (o_ixP Try.underlying89 sz176 rfl rfl (by first | omega | (simp only [bys_length, ints_length, wds_length, bos_length, List.length_append, List.length_take, List.length_drop, List.length_singleton]; omega)) (by repeat (first | exact nn_some | with_reducible exact nn_sl (by decide) | exact nn_rs (by assumption) (fun _ => by first | omega | (simp only [bys_length, ints_length, wds_length, bos_length, List.length_append, List.length_take, List.length_drop, List.length_singleton]; omega)) | apply Nn.left))) ?_
            refine th_take (i := 23) (listed' := #[tt,tt,tt,tt,tt,tt,tt,tt,tt,tt,tt,tt,tt,tt,tt,tt,tt,tt,tt,tt,tt,tt,tt,tt,ff]) rfl (by kernel_rfl) (by kernel_rfl) (by kernel_rfl) rfl rfl (o_faP (m := 0) (o := 0) Try.underlying176 rfl rfl sz33 rfl (by repeat (first | exact nn_some | with_reducible exact nn_sl (by decide) | exact nn_rs (by assumption) (fun _ => by first | omega | (simp only [bys_length, ints_length, wds_length, bos_length, List.length_append, List.length_take, List.length_drop, List.length_singleton]; omega)) | apply Nn.left))) ?_; refine th_one (i := 24) (by kernel_rfl) ?_; refine oh_u (i := 24) (listed' := #[tt,tt,tt,tt,tt,tt,tt,tt,tt,tt,tt,tt,tt,tt,tt,tt,tt,tt,tt,tt,tt,tt,tt,tt,tt]) rfl rfl rfl (o_stP (ys := (rls1.set i ⟨.slice (cutAddr (some ⟨ba, oa, none⟩) ca rls1[i].mark.toNat 1) (rls1[i].rows.length - rls1[i].mark.toNat) (ca - rls1[i].mark.toNat), rls1[i].rows.drop rls1[i].mark.toNat, rls1[i].mark⟩).flatMap rcl) sz33 rfl rfl rfl (by repeat (first | with_reducible exact ct_here | apply ct_left)) (by omega) (fm_set (f := rcl) (k := 2) (j := 0) (y := ⟨.slice (cutAddr (some ⟨ba, oa, none⟩) ca rls1[i].mark.toNat 1) (rls1[i].rows.length - rls1[i].mark.toNat) (ca - rls1[i].mark.toNat), rls1[i].rows.drop rls1[i].mark.toNat, rls1[i].mark⟩) (rcl_len _) hir (by decide) rfl rfl)) (by repeat (first | with_reducible exact dr_refl | apply dr_keep | apply dr_drop)) ?_; refine th_done (by kernel_rfl) ?_; refine q_then_n ?_
            have hir2 : i < (rls1.set i ⟨.slice (cutAddr (some ⟨ba, oa, none⟩) ca rls1[i].mark.toNat 1) (rls1[i].rows.length - rls1[i].mark.toNat) (ca - rls1[i].mark.toNat), rls1[i].rows.drop rls1[i].mark.toNat, rls1[i].mark⟩).length := by rw [List.length_set]; exact hir
            refine tc_reg ?_; refine tlm ?_; refine tv (o_nilCheck rfl) ?_; refine tv (o_fieldAddr (o := 1) Try.underlying91 rfl rfl sz89 rfl) ?_; refine tv (by first | exact o_load p89 rfl (by repeat (first | with_reducible exact has_here | with_reducible exact has_pt | apply has_left)) rfl | exact o_loadC p89 rfl (by assumption)) ?_; refine tlm ?_; refine tv (o_ixP Try.underlying89 sz176 rfl rfl (by first | omega | (simp only [bys_length, ints_length, wds_length, bos_length, List.length_append, List.length_take, List.length_drop, List.length_singleton]; omega)) (by repeat (first | exact nn_some | with_reducible exact nn_sl (by decide) | exact nn_rs (by assumption) (fun _ => by first | omega | (simp only [bys_length, ints_length, wds_length, bos_length, List.length_append, List.length_take, List.length_drop, List.length_singleton]; omega)) | apply Nn.left))) ?_; refine tv (o_faP (m := 0) (o := 1) Try.underlying176 rfl rfl sz3 rfl (by repeat (first | exact nn_some | with_reducible exact nn_sl (by decide) | exact nn_rs (by assumption) (fun _ => by first | omega | (simp only [bys_length, ints_length, wds_length, bos_length, List.length_append, List.length_take, List.length_drop, List.length_singleton]; omega)) | apply Nn.left))) ?_; refine tl_u rfl (o_stP (ys := (rls1.set i ⟨.slice (cutAddr (some ⟨ba, oa, none⟩) ca rls1[i].mark.toNat 1) (rls1[i].rows.length - rls1[i].mark.toNat) (ca - rls1[i].mark.toNat), rls1[i].rows.drop rls1[i].mark.toNat, -1⟩).flatMap rcl) sz3 rfl rfl rfl (by repeat (first | with_reducible exact ct_here | apply ct_left)) (by omega) ((fm_set (f := rcl) (k := 2) (j := 1) (y := ⟨.slice (cutAddr (some ⟨ba, oa, none⟩) ca rls1[i].mark.toNat 1) (rls1[i].rows.length - rls1[i].mark.toNat) (ca - rls1[i].mark.toNat), rls1[i].rows.drop rls1[i].mark.toNat, -1⟩) (rcl_len _) hir2 (by decide) rfl (by rw [List.getElem_set_self]; rfl)).trans (by rw [List.set_set]))) ?_
            have hnext : (rls1.set i ⟨.slice (cutAddr (some ⟨ba, oa, none⟩) ca rls1[i].mark.toNat 1) (rls1[i].rows.length - rls1[i].mark.toNat) (ca - rls1[i].mark.toNat), rls1[i].rows.drop rls1[i].mark.toNat, -1⟩).map RL.l = mp fenceL (i + 1) s.ls := by
              rw [List.map_set, hp1, ← mp_set fenceL hi]
              congr 1
              unfold fenceL
              rw [if_pos (by rw [← hmk]; exact h0), ← hmk, ← hla]
              simp [RL.l, List.map_drop]
            refine tl_pre (A' := F * RDevC r (.slice (some ⟨bl, ol, none⟩) s.ls.length cl_) (rls1.set i ⟨.slice (cutAddr (some ⟨ba, oa, none⟩) ca rls1[i].mark.toNat 1) (rls1[i].rows.length - rls1[i].mark.toNat) (ca - rls1[i].mark.toNat), rls1[i].rows.drop rls1[i].mark.toNat, -1⟩) av kvs { s with ls := mp fenceL (i + 1) s.ls }) (fun _ _ h => ?_) ?_
            · rw [← hf2 F ⟨.slice (cutAddr (some ⟨ba, oa, none⟩) ca rls1[i].mark.toNat 1) (rls1[i].rows.length - rls1[i].mark.toNat) (ca - rls1[i].mark.toNat), rls1[i].rows.drop rls1[i].mark.toNat, -1⟩ { s with ls := mp fenceL (i + 1) s.ls } (mp_length _ _ _) rfl rfl rfl rfl]
              have h1 := sl_cut (l := rls1[i].mark.toNat) (h.perm (star_swap _ _ _)) (by omega)
              rw [bs_split _ rls1[i].mark.toNat] at h1
              simp only [List.length_drop, List.map_drop, Nat.mul_one] at h1 ⊢
              exact (h1.perm (show _ = _ * Bs rowR (rls1[i].rows.take rls1[i].mark.toNat) by ac_rfl)).left
            refine tl_nil ?_; refine q_block_n (q_then_n ?_); refine tc_reg ?_; refine tlm ?_; refine tv (by first | exact o_addI rfl rfl (by omega) | exact o_add rfl rfl) ?_; refine tla ?_; refine nq ?_; exact ⟨_, by omega, i + 1, _, by omega, hnext, rfl, rfl, rfl, rfl⟩
        · have h0 : ¬ 0 ≤ rls1[i].mark := by simp at h; omega
          have hsame := mp_same fenceL hi (by unfold fenceL; rw [if_neg (by rw [← hmk]; exact h0)])
          have hnext : rls1.map RL.l = mp fenceL (i + 1) s.ls := by rw [hsame]; exact hp1
          refine tc_eq (show _ = F * RDevC r (.slice (some ⟨bl, ol, none⟩) s.ls.length cl_) rls1 av kvs { s with ls := mp fenceL (i + 1) s.ls } by rw [hsame]) ?_; refine tc_skip ?_; refine q_block_n (q_then_n ?_); refine tc_reg ?_; refine tlm ?_; refine tv (by first | exact o_addI rfl rfl (by omega) | exact o_add rfl rfl) ?_; refine tla ?_; refine nq ?_; exact ⟨_, by omega, i + 1, _, by omega, hnext, rfl, rfl, rfl, rfl⟩
      · obtain rfl : i = s.ls.length := by simp at h; omega
        have hfe : fenceS s = { s with ls := mp fenceL s.ls.length s.ls } := by unfold fenceS; rw [mp_map]
        refine tc_pre (rdev_back (mpF_wf hw) hp1 hkv) ?_
        rw [← hfe]
        refine tc_exit ?_; refine q_then_e (q_then_e (q_block_x (q_then_n ?_))); refine sr ?_; refine tlm ?_; refine tl_c rfl (o_call bd139 rfl (rdone_f F)) ?_; rintro _ _ ⟨rfl, rfl⟩; refine tla ?_; refine nq ?_; refine tc_ret ?_; exact ⟨.int .i64 (doneE (fenceS s)), F * RDev r (doneS (fenceS s)), res1 rfl rfl, Dr.sat (by repeat (first | with_reducible exact dr_refl | apply dr_keep | apply dr_drop)), rfl, rfl⟩
theorem rWake_f (F : SP) {r : Nat} {s : DevS} :
    Fn Try.prog 80 #[.pointer (some ⟨r, 0, none⟩)] (F * RDev r s) (fun v B => v = .int .i64 (if s.off then 0 else 3) ∧ B = F * RDev r { s with off := false }) := by
  refine fn_enterW (args := [.pointer (some ⟨r, 0, none⟩)]) Try.func80 rfl Try.ntmps80 (by simp) ?_; refine tc_rdev fun hw lv rls av kvs hmap hkv => ?_
  have hpos := hw.pos
  have htop := hw.top
  refine tc_have (fun _ _ h => rdevR_of hw hmap h) fun hR => ?_
  obtain ⟨bl, ol, cl_, rfl, hlc, hll⟩ := hR.lv
  have hlen := hR.len
  
  refine sr ?_; refine tla ?_; refine nq ?_; refine tc_seq ?_; refine sr ?_; refine tlm ?_; refine tv (o_nilCheck rfl) ?_; refine tv (o_fieldAddr (o := 5) Try.underlying91 rfl rfl sz4 rfl) ?_; refine tv (o_load p4 rfl (by repeat (first | exact rdevC_r | apply has_left)) rfl) ?_; refine tv (o_not rfl) ?_; refine nq ?_; refine tc_cond rfl (fun h => ?_) (fun h => ?_)
  · have hoff : s.off = false := by simpa using h
    have e : s = { s with off := false } := by rw [← hoff]
    refine sr ?_; refine tla ?_; refine nq ?_; refine tc_ret ?_; refine q_then_r ?_; exact ⟨.int .i64 3, F * RDev r { s with off := false }, res1 rfl rfl, by rw [← e]; exact rdev_back hw hmap hkv, by rw [hoff]; rfl, rfl⟩
  · have hoff : s.off = true := by simpa using h
    refine tc_skip ?_; refine q_then_n ?_; refine sr ?_; refine tlm ?_; refine tv (o_nilCheck rfl) ?_; refine tv (o_fieldAddr (o := 5) Try.underlying91 rfl rfl sz4 rfl) ?_; refine tl_u rfl (o_store sz4 rfl rfl rfl (by show 5 < 6; decide) rfl (rdevC_upd s.ops s.cnt false)) ?_; refine nq ?_; refine sr ?_; refine tla ?_; refine nq ?_; refine tc_ret ?_; exact ⟨.int .i64 0, F * RDev r { s with off := false }, res1 rfl rfl, rdev_back ⟨hw.pos, hw.top, hw.line, hw.arms, hw.after, hw.keeps⟩ hmap hkv, by rw [hoff]; rfl, rfl⟩
theorem rCrash_f (F : SP) {r c m : Nat} {s : DevS} {a : Option Addr} {keep : List Int} (hr : Rs F a (ints keep)) (hk : ∀ k ∈ keep, k ≤ 9223372036854775807) (hm : keep.length = m) (hkl : m ≤ 17592186044416) :
    Fn Try.prog 71 #[.pointer (some ⟨r, 0, none⟩), .slice a m c] (F * RDev r s) (fun v B => v = .int .i64 (crS keep s).1 ∧ B = F * RDev r (crS keep s).2) := by
  refine fn_enterW (args := [.pointer (some ⟨r, 0, none⟩), .slice a m c]) Try.func71 rfl Try.ntmps71 (by simp) ?_; refine tc_rdev fun hw lv rls av kvs hmap hkv => ?_
  have hpos := hw.pos
  have htop := hw.top
  refine tc_have (fun _ _ h => rdevR_of hw hmap h) fun hR => ?_
  obtain ⟨bl, ol, cl_, rfl, hlc, hll⟩ := hR.lv
  have hlen := hR.len
  
  refine sr ?_; refine tla ?_; refine nq ?_; refine tc_seq ?_; refine sr ?_; refine tlm ?_; refine tv (o_nilCheck rfl) ?_; refine tv (o_fieldAddr (o := 5) Try.underlying91 rfl rfl sz4 rfl) ?_; refine tv (o_load p4 rfl (by repeat (first | exact rdevC_r | apply has_left)) rfl) ?_; refine nq ?_; refine tc_cond rfl (fun h => ?_) (fun h => ?_)
  · try simp only [lv1, lv2, lv3, lv4, lv5, lv6, Bool.not_true, Bool.not_false] at h
    refine sr ?_; refine tla ?_; refine nq ?_; refine tc_ret ?_; refine q_then_r ?_
    have e : crS keep s = (5, s) := by unfold crS; rw [if_pos h]
    rw [e]
    exact ⟨.int .i64 5, F * RDev r s, res1 rfl rfl, rdev_back hw hmap hkv, rfl, rfl⟩
  · have hoff : s.off = false := by simpa using h
    refine tc_skip ?_; refine q_then_n ?_; refine tc_seq ?_; refine sr ?_; refine tlm ?_; refine tl_c rfl (o_call bd128 rfl (rbelow_c (xs := keep))) ?_; rintro _ _ ⟨rfl, rfl⟩; refine nq ?_; refine tc_cond rfl (fun h => ?_) (fun h => ?_)
    · try simp only [lv1, lv2, lv3, lv4, lv5, lv6, Bool.not_true, Bool.not_false] at h
      refine sr ?_; refine tla ?_; refine nq ?_; refine tc_ret ?_; refine q_then_r ?_
      have e : crS keep s = (2, s) := by unfold crS; rw [if_neg (by rw [hoff]; decide), if_pos h]
      rw [e]
      exact ⟨.int .i64 2, F * RDev r s, res1 rfl rfl, rdev_back hw hmap hkv, rfl, rfl⟩
    · have hlow : lowB keep = false := by simpa using h
      have e : crS keep s = (0, goesS keep s) := by unfold crS; rw [if_neg (by rw [hoff]; decide), if_neg (by rw [hlow]; decide)]
      rw [e]
      refine tc_pre (rdev_back hw hmap hkv) ?_
      subst hm
      refine tc_skip ?_; refine q_then_n ?_; refine sr ?_; refine tlm ?_; refine tlm ?_; refine tl_c rfl (o_call bd129 rfl (rgoes_f F hr (fun k hm => ⟨low_nn hlow k hm, hk k hm⟩) hkl)) ?_; rintro _ _ ⟨rfl, rfl⟩; refine nq ?_; refine sr ?_; refine tla ?_; refine nq ?_; refine tc_ret ?_; exact ⟨.int .i64 0, F * RDev r (goesS keep s), res1 rfl rfl, Dr.sat (by repeat (first | with_reducible exact dr_refl | apply dr_keep | apply dr_drop)), rfl, rfl⟩
set_option maxRecDepth 20000 in
set_option maxHeartbeats 1000000 in
theorem rArm_f (F : SP) {a : Option Addr} {c m r : Nat} {s : DevS} {kvs : List Value} {ars : List (Int × List Int)} (hr : RdA F a kvs ars) (hm : ars.length = m) (hl : m ≤ 17592186044416) (hk : ∀ x ∈ ars, (-9223372036854775808 ≤ x.1 ∧ x.1 ≤ 9223372036854775807) ∧ x.2.length ≤ 17592186044416 ∧ ∀ k ∈ x.2, k ≤ 9223372036854775807) :
    Fn Try.prog 77 #[.pointer (some ⟨r, 0, none⟩), .slice a m c] (F * RDev r s) (fun v B => v = .int .i64 (armS ars s).1 ∧ B = F * RDev r (armS ars s).2) := by
  refine fn_enterW (args := [.pointer (some ⟨r, 0, none⟩), .slice a m c]) Try.func77 rfl Try.ntmps77 (by simp) ?_; refine tc_rdev fun hw lv rls av kvs0 hmap hkv0 => ?_
  have hpos := hw.pos
  have htop := hw.top
  refine tc_have (fun _ _ h => rdevR_of hw hmap h) fun hR => ?_
  obtain ⟨bl, ol, cl_, rfl, hlc, hll⟩ := hR.lv
  have hlen := hR.len
  have ha64 := hw.arms
  have hrr : Rs F a (acs kvs ars) := hr.rd
  have hrl := acs_length hr.len
  refine sr ?_; refine tla ?_; refine nq ?_; refine tc_seq ?_; refine sr ?_; refine tlm ?_; refine tv (o_nilCheck rfl) ?_; refine tv (o_fieldAddr (o := 5) Try.underlying91 rfl rfl sz4 rfl) ?_; refine tv (o_load p4 rfl (by repeat (first | exact rdevC_r | apply has_left)) rfl) ?_; refine nq ?_; refine tc_cond rfl (fun h => ?_) (fun h => ?_)
  · try simp only [lv1, lv2, lv3, lv4, lv5, lv6, Bool.not_true, Bool.not_false] at h
    refine sr ?_; refine tla ?_; refine nq ?_; refine tc_ret ?_; refine q_then_r ?_
    have e : armS ars s = (5, s) := by unfold armS; rw [if_pos h]
    rw [e]
    exact ⟨.int .i64 5, F * RDev r s, res1 rfl rfl, rdev_back hw hmap hkv0, rfl, rfl⟩
  · have hoff : s.off = false := by simpa using h
    refine tc_skip ?_; refine q_then_n ?_; refine tc_seq ?_; refine sr ?_; refine tla ?_; refine nq ?_; refine tc_block ?_; refine tc_loop (fun kk ρ BB => ∃ (i : Nat), (i ≤ m) ∧ ((ars.take i).any badA = false) ∧ kk = m - i ∧ ρ 5 = .int .i64 (i : Nat) ∧ ρ 0 = .pointer (some ⟨r, 0, none⟩) ∧ ρ 1 = .slice a m c ∧ BB = F * RDevC r (.slice (some ⟨bl, ol, none⟩) s.ls.length cl_) rls av kvs0 s) (m := m - (0)) ?_ ?_
    · exact ⟨0, by omega, rfl, rfl, rfl, rfl, rfl, rfl⟩
    · intro k ρ B hI
      obtain ⟨i, hp0, hp1, hkk1, hE5, hE0, hE1, rfl⟩ := hI
      refine tc_env (d := 5) hE5 ?_; refine tc_env (d := 0) hE0 ?_; refine tc_env (d := 1) hE1 ?_
      clear hE5 hE0 hE1
      refine tc_seq ?_; refine sr ?_; refine tlm ?_; refine tlm ?_; refine tv (o_len Try.underlying74 rfl) ?_; refine tv (o_lss rfl rfl) ?_; refine nq ?_; refine tc_cond rfl (fun h => ?_) (fun h => ?_)
      · have hi : i < ars.length := by simp at h; omega
        obtain ⟨kb, kc, hkv, hkc, hkr⟩ := hr.keep i hi
        have g0 := acs_at0 hr.len hi
        have g1 := acs_at1 hr.len hi
        have hkv2 : kvs[i]'(by rw [hr.len]; exact hi) = .slice kb ars[i].2.length kc := by rw [List.getElem?_eq_getElem (by rw [hr.len]; exact hi)] at hkv; exact Option.some.inj hkv
        rw [hkv2] at g1
        have hke := hk _ (List.getElem_mem hi)
        refine tc_skip ?_; refine q_then_n ?_; refine tc_seq ?_; refine tc_block ?_; refine sr ?_; refine tlm ?_; refine tlm ?_; refine tv (o_ixP Try.underlying74 sz72 rfl rfl (by first | omega | (simp only [bys_length, ints_length, wds_length, bos_length, List.length_append, List.length_take, List.length_drop, List.length_singleton]; omega)) (by repeat (first | exact nn_some | with_reducible exact nn_sl (by decide) | exact nn_rs (by assumption) (fun _ => by first | omega | (simp only [bys_length, ints_length, wds_length, bos_length, List.length_append, List.length_take, List.length_drop, List.length_singleton]; omega)) | apply Nn.left))) ?_; refine tv (o_faP (m := 0) (o := 0) Try.underlying72 rfl rfl sz3 rfl (by repeat (first | exact nn_some | with_reducible exact nn_sl (by decide) | exact nn_rs (by assumption) (fun _ => by first | omega | (simp only [bys_length, ints_length, wds_length, bos_length, List.length_append, List.length_take, List.length_drop, List.length_singleton]; omega)) | apply Nn.left))) ?_; refine tv (o_ldP p3 rfl (by repeat (first | assumption | with_reducible exact rs_sl | with_reducible exact rs_pt0 | exact rs_none | apply Rs.left)) (by first | assumption | exact bys_at (by omega) | exact ints_at (by omega) | exact wds_at (by omega) | exact bos_at (by omega) | rfl)) ?_; refine tv (o_lss rfl rfl) ?_; refine tlm ?_; refine tl_bool (d := 23) rfl (fun h => ?_) (fun h => ?_)
        · try simp only [lv1, lv2, lv3, lv4, lv5, lv6, Bool.not_true, Bool.not_false] at h
          refine tk ?_; refine tk ?_; refine tk ?_; refine tk ?_; refine tk ?_; refine tk ?_; refine tv (o_pick_t rfl (by conv => lhs; whnf)) ?_; refine nq ?_; refine tc_cond_t rfl ?_; refine sr ?_; refine tla ?_; refine nq ?_; refine tc_ret ?_; refine q_block_r (q_then_r (q_then_r (q_block_r (q_then_r ?_))))
          have hs2 : armS ars s = (2, s) := by unfold armS; rw [if_neg (by rw [hoff]; decide), if_pos (any_at hi (by unfold badA; simp at h ⊢; first | exact h | exact .inl h | exact .inr h | omega))]
          rw [hs2]
          exact ⟨.int .i64 2, F * RDev r s, res1 rfl rfl, rdev_back hw hmap hkv0, rfl, rfl⟩
        · try simp only [lv1, lv2, lv3, lv4, lv5, lv6, Bool.not_true, Bool.not_false] at h
          refine tlm ?_; refine tlm ?_; refine tv (o_ixP Try.underlying74 sz72 rfl rfl (by first | omega | (simp only [bys_length, ints_length, wds_length, bos_length, List.length_append, List.length_take, List.length_drop, List.length_singleton]; omega)) (by repeat (first | exact nn_some | with_reducible exact nn_sl (by decide) | exact nn_rs (by assumption) (fun _ => by first | omega | (simp only [bys_length, ints_length, wds_length, bos_length, List.length_append, List.length_take, List.length_drop, List.length_singleton]; omega)) | apply Nn.left))) ?_; refine tv (o_faP (m := 0) (o := 1) Try.underlying72 rfl rfl sz37 rfl (by repeat (first | exact nn_some | with_reducible exact nn_sl (by decide) | exact nn_rs (by assumption) (fun _ => by first | omega | (simp only [bys_length, ints_length, wds_length, bos_length, List.length_append, List.length_take, List.length_drop, List.length_singleton]; omega)) | apply Nn.left))) ?_; refine tv (o_ldP p37 rfl (by repeat (first | assumption | with_reducible exact rs_sl | with_reducible exact rs_pt0 | exact rs_none | apply Rs.left)) (by first | assumption | exact bys_at (by omega) | exact ints_at (by omega) | exact wds_at (by omega) | exact bos_at (by omega) | rfl)) ?_; refine tl_c rfl (o_call bd128 rfl (rbelow_c (xs := ars[i].2))) ?_; rintro _ _ ⟨rfl, rfl⟩; refine tv (o_pick_f rfl (by conv => lhs; whnf)) ?_; refine nq ?_
          refine tc_cond rfl (fun h => ?_) (fun h => ?_)
          · try simp only [lv1, lv2, lv3, lv4, lv5, lv6, Bool.not_true, Bool.not_false] at h
            refine sr ?_; refine tla ?_; refine nq ?_; refine tc_ret ?_; refine q_block_r (q_then_r (q_then_r (q_block_r (q_then_r ?_))))
            have hs2 : armS ars s = (2, s) := by unfold armS; rw [if_neg (by rw [hoff]; decide), if_pos (any_at hi (by unfold badA; simp at h ⊢; first | exact h | exact .inl h | exact .inr h | omega))]
            rw [hs2]
            exact ⟨.int .i64 2, F * RDev r s, res1 rfl rfl, rdev_back hw hmap hkv0, rfl, rfl⟩
          · have hbad : badA ars[i] = false := by unfold badA; rw [Bool.or_eq_false_iff]; exact ⟨by simp; omega, h⟩
            refine tc_skip ?_; refine q_block_n (q_then_n ?_); refine tc_reg ?_; refine tlm ?_; refine tv (by first | exact o_addI rfl rfl (by omega) | exact o_add rfl rfl) ?_; refine tla ?_; refine nq ?_; exact ⟨_, by omega, i + 1, by omega, any_take hp1 hi hbad, rfl, rfl, rfl, rfl, rfl⟩
      · have hmi : m = i := by simp at h; omega
        subst hmi
        have hnb : ars.any badA = false := by rwa [List.take_of_length_le (by omega)] at hp1
        refine tc_have (fun _ _ h => rdevC_arms h) fun ⟨aa, ca, hav, _⟩ => ?_
        subst hav
        refine tc_exit ?_; refine q_then_e (q_then_e (q_block_x (q_then_n ?_))); refine tc_seq ?_; refine sr ?_; refine tlm ?_; refine tv (o_len Try.underlying74 rfl) ?_; refine tlm ?_; refine tv (o_nilCheck rfl) ?_; refine tv (o_fieldAddr (o := 3) Try.underlying91 rfl rfl sz74 rfl) ?_; refine tv (o_load p74 rfl (by repeat (first | exact rdevC_r | apply has_left)) rfl) ?_; refine tv (o_len Try.underlying74 rfl) ?_; refine tv (by first | exact o_addI rfl rfl (by omega) | exact o_add rfl rfl) ?_; refine tv (o_gtr rfl rfl) ?_; refine nq ?_; refine tc_cond rfl (fun h => ?_) (fun h => ?_)
        · try simp only [lv1, lv2, lv3, lv4, lv5, lv6, Bool.not_true, Bool.not_false] at h
          refine sr ?_; refine tla ?_; refine nq ?_; refine tc_ret ?_; refine q_then_r ?_
          have hs2 : armS ars s = (4, s) := by unfold armS; rw [if_neg (by rw [hoff]; decide), if_neg (by rw [hnb]; decide), if_pos (by omega)]
          rw [hs2]
          exact ⟨.int .i64 4, F * RDev r s, res1 rfl rfl, rdev_back hw hmap hkv0, rfl, rfl⟩
        · have hfit : ars.length + s.arms.length ≤ 64 := by simp at h; omega
          refine tc_pre (rdev_back hw hmap hkv0) ?_; refine tc_skip ?_; refine q_then_n ?_; refine tc_seq ?_; refine sr ?_; refine tla ?_; refine nq ?_; refine tc_block ?_; refine tc_loop (fun kk ρ BB => ∃ (i : Nat), (i ≤ m) ∧ kk = m - i ∧ ρ 6 = .int .i64 (i : Nat) ∧ ρ 0 = .pointer (some ⟨r, 0, none⟩) ∧ ρ 1 = .slice a m c ∧ BB = F * RDev r { s with arms := s.arms ++ ars.take i }) (m := m - (0)) ?_ ?_
          · exact ⟨0, by omega, rfl, rfl, rfl, rfl, by rw [List.take_zero, List.append_nil]⟩
          · intro k ρ B hI
            obtain ⟨i, hp0, hkk2, hE6, hE0, hE1, rfl⟩ := hI
            refine tc_env (d := 6) hE6 ?_; refine tc_env (d := 0) hE0 ?_; refine tc_env (d := 1) hE1 ?_
            clear hE6 hE0 hE1
            refine tc_seq ?_; refine sr ?_; refine tlm ?_; refine tlm ?_; refine tv (o_len Try.underlying74 rfl) ?_; refine tv (o_lss rfl rfl) ?_; refine nq ?_; refine tc_cond rfl (fun h => ?_) (fun h => ?_)
            · have hi : i < ars.length := by simp at h; omega
              obtain ⟨kb, kc, hkv, hkc, hkr⟩ := hr.keep i hi
              have g0 := acs_at0 hr.len hi
              have g1 := acs_at1 hr.len hi
              have hkv2 : kvs[i]'(by rw [hr.len]; exact hi) = .slice kb ars[i].2.length kc := by rw [List.getElem?_eq_getElem (by rw [hr.len]; exact hi)] at hkv; exact Option.some.inj hkv
              rw [hkv2] at g1
              have hke := hk _ (List.getElem_mem hi)
              refine tc_rdev fun hw2 lv2 rls2 av2 kvs2 hmap2 hkv3 => ?_; refine tc_have (fun _ _ h => rdevC_arms h) fun ⟨aa2, ca2, hav, _⟩ => ?_
              subst hav
              refine tc_eq (show _ = F * KeepsR kvs2 (s.arms ++ ars.take i) * Bs rlR rls2 * Sl 2 lv2 s.ls.length (rls2.flatMap rcl) * pt r (cl (rdcs lv2 { s with arms := s.arms ++ ars.take i } (.slice aa2 (s.arms ++ ars.take i).length ca2)) 91) * Sl 2 (.slice aa2 (s.arms ++ ars.take i).length ca2) (s.arms ++ ars.take i).length (acs kvs2 (s.arms ++ ars.take i)) by unfold RDevC ArmsR; ac_rfl) ?_; refine tc_skip ?_; refine q_then_n ?_; refine tc_seq ?_; refine tc_block ?_; refine tc_regh (S := F * KeepsR kvs2 (s.arms ++ ars.take i) * Bs rlR rls2) mo (by repeat (first | with_reducible exact dr_refl | apply dr_keep | apply dr_drop)) ?_
              show TH _ _ _ _ _ 22 #[ff,ff,ff,ff,ff,ff,ff,ff,ff,ff,ff,ff,ff,ff,ff,ff,ff,ff,ff,ff,ff,ff] _ _
              refine th_take (i := 0) (listed' := #[tt,ff,ff,ff,ff,ff,ff,ff,ff,ff,ff,ff,ff,ff,ff,ff,ff,ff,ff,ff,ff,ff]) rfl (by kernel_rfl) (by kernel_rfl) (by kernel_rfl) rfl rfl (o_move (by conv => lhs; whnf)) ?_; refine th_take (i := 1) (listed' := #[tt,tt,ff,ff,ff,ff,ff,ff,ff,ff,ff,ff,ff,ff,ff,ff,ff,ff,ff,ff,ff,ff]) rfl (by kernel_rfl) (by kernel_rfl) (by kernel_rfl) rfl rfl (o_move (by conv => lhs; whnf)) ?_; refine th_take (i := 2) (listed' := #[tt,tt,tt,ff,ff,ff,ff,ff,ff,ff,ff,ff,ff,ff,ff,ff,ff,ff,ff,ff,ff,ff]) rfl (by kernel_rfl) (by kernel_rfl) (by kernel_rfl) rfl rfl (o_nilCheck rfl) ?_; refine th_take (i := 3) (listed' := #[tt,tt,tt,tt,ff,ff,ff,ff,ff,ff,ff,ff,ff,ff,ff,ff,ff,ff,ff,ff,ff,ff]) rfl (by kernel_rfl) (by kernel_rfl) (by kernel_rfl) rfl rfl (o_fieldAddr (o := 3) Try.underlying91 rfl rfl sz74 rfl) ?_; refine th_take (i := 5) (listed' := #[tt,tt,tt,tt,ff,tt,ff,ff,ff,ff,ff,ff,ff,ff,ff,ff,ff,ff,ff,ff,ff,ff]) rfl (by kernel_rfl) (by kernel_rfl) (by kernel_rfl) rfl rfl (o_move (by conv => lhs; whnf)) ?_; refine th_take (i := 6) (listed' := #[tt,tt,tt,tt,ff,tt,tt,ff,ff,ff,ff,ff,ff,ff,ff,ff,ff,ff,ff,ff,ff,ff]) rfl (by kernel_rfl) (by kernel_rfl) (by kernel_rfl) rfl rfl (o_move (by conv => lhs; whnf)) ?_; refine th_take (i := 7) (listed' := #[tt,tt,tt,tt,ff,tt,tt,tt,ff,ff,ff,ff,ff,ff,ff,ff,ff,ff,ff,ff,ff,ff]) rfl (by kernel_rfl) (by kernel_rfl) (by kernel_rfl) rfl rfl (o_ixP Try.underlying74 sz72 rfl rfl (by first | omega | (simp only [bys_length, ints_length, wds_length, bos_length, List.length_append, List.length_take, List.length_drop, List.length_singleton]; omega)) (by repeat (first | exact nn_some | with_reducible exact nn_sl (by decide) | exact nn_rs (by assumption) (fun _ => by first | omega | (simp only [bys_length, ints_length, wds_length, bos_length, List.length_append, List.length_take, List.length_drop, List.length_singleton]; omega)) | apply Nn.left))) ?_
              refine th_take (i := 8) (listed' := #[tt,tt,tt,tt,ff,tt,tt,tt,tt,ff,ff,ff,ff,ff,ff,ff,ff,ff,ff,ff,ff,ff]) rfl (by kernel_rfl) (by kernel_rfl) (by kernel_rfl) rfl rfl (o_faP (m := 0) (o := 0) Try.underlying72 rfl rfl sz3 rfl (by repeat (first | exact nn_some | with_reducible exact nn_sl (by decide) | exact nn_rs (by assumption) (fun _ => by first | omega | (simp only [bys_length, ints_length, wds_length, bos_length, List.length_append, List.length_take, List.length_drop, List.length_singleton]; omega)) | apply Nn.left))) ?_; refine th_take (i := 9) (listed' := #[tt,tt,tt,tt,ff,tt,tt,tt,tt,tt,ff,ff,ff,ff,ff,ff,ff,ff,ff,ff,ff,ff]) rfl (by kernel_rfl) (by kernel_rfl) (by kernel_rfl) rfl rfl (o_ldP p3 rfl (by repeat (first | assumption | with_reducible exact rs_sl | with_reducible exact rs_pt0 | exact rs_none | apply Rs.left)) (by first | assumption | exact bys_at (by omega) | exact ints_at (by omega) | exact wds_at (by omega) | exact bos_at (by omega) | rfl)) ?_; refine th_take (i := 10) (listed' := #[tt,tt,tt,tt,ff,tt,tt,tt,tt,tt,tt,ff,ff,ff,ff,ff,ff,ff,ff,ff,ff,ff]) rfl (by kernel_rfl) (by kernel_rfl) (by kernel_rfl) rfl rfl (o_move (by conv => lhs; whnf)) ?_; refine th_take (i := 11) (listed' := #[tt,tt,tt,tt,ff,tt,tt,tt,tt,tt,tt,tt,ff,ff,ff,ff,ff,ff,ff,ff,ff,ff]) rfl (by kernel_rfl) (by kernel_rfl) (by kernel_rfl) rfl rfl (o_move (by conv => lhs; whnf)) ?_; refine th_take (i := 12) (listed' := #[tt,tt,tt,tt,ff,tt,tt,tt,tt,tt,tt,tt,tt,ff,ff,ff,ff,ff,ff,ff,ff,ff]) rfl (by kernel_rfl) (by kernel_rfl) (by kernel_rfl) rfl rfl (o_ixP Try.underlying74 sz72 rfl rfl (by first | omega | (simp only [bys_length, ints_length, wds_length, bos_length, List.length_append, List.length_take, List.length_drop, List.length_singleton]; omega)) (by repeat (first | exact nn_some | with_reducible exact nn_sl (by decide) | exact nn_rs (by assumption) (fun _ => by first | omega | (simp only [bys_length, ints_length, wds_length, bos_length, List.length_append, List.length_take, List.length_drop, List.length_singleton]; omega)) | apply Nn.left))) ?_
              refine th_take (i := 13) (listed' := #[tt,tt,tt,tt,ff,tt,tt,tt,tt,tt,tt,tt,tt,tt,ff,ff,ff,ff,ff,ff,ff,ff]) rfl (by kernel_rfl) (by kernel_rfl) (by kernel_rfl) rfl rfl (o_faP (m := 0) (o := 1) Try.underlying72 rfl rfl sz37 rfl (by repeat (first | exact nn_some | with_reducible exact nn_sl (by decide) | exact nn_rs (by assumption) (fun _ => by first | omega | (simp only [bys_length, ints_length, wds_length, bos_length, List.length_append, List.length_take, List.length_drop, List.length_singleton]; omega)) | apply Nn.left))) ?_; refine th_take (i := 14) (listed' := #[tt,tt,tt,tt,ff,tt,tt,tt,tt,tt,tt,tt,tt,tt,tt,ff,ff,ff,ff,ff,ff,ff]) rfl (by kernel_rfl) (by kernel_rfl) (by kernel_rfl) rfl rfl (o_ldP p37 rfl (by repeat (first | assumption | with_reducible exact rs_sl | with_reducible exact rs_pt0 | exact rs_none | apply Rs.left)) (by first | assumption | exact bys_at (by omega) | exact ints_at (by omega) | exact wds_at (by omega) | exact bos_at (by omega) | rfl)) ?_; refine th_two (i := 4) (j := 15) (by kernel_rfl) ?_ ?_
              · skip
                refine oh_v (i := 4) (listed' := #[tt,tt,tt,tt,tt,tt,tt,tt,tt,tt,tt,tt,tt,tt,tt,ff,ff,ff,ff,ff,ff,ff]) rfl rfl rfl (o_load p74 rfl (by repeat (first | with_reducible exact has_here | with_reducible exact has_pt | apply has_left)) rfl) ?_; refine th_one (i := 15) (by kernel_rfl) ?_; refine oh_c (i := 15) (listed' := #[tt,tt,tt,tt,tt,tt,tt,tt,tt,tt,tt,tt,tt,tt,tt,tt,ff,ff,ff,ff,ff,ff]) rfl rfl rfl (o_call bd29 rfl (CopyInts_c (xs := ars[i].2))) ?_; rintro _ _ ⟨a61, c61, rfl, hc61, rfl⟩; refine ⟨by repeat (first | with_reducible exact dr_refl | apply dr_keep | apply dr_drop), ?_⟩; refine th_take (i := 16) (listed' := #[tt,tt,tt,tt,tt,tt,tt,tt,tt,tt,tt,tt,tt,tt,tt,tt,tt,ff,ff,ff,ff,ff]) rfl (by kernel_rfl) (by kernel_rfl) (by kernel_rfl) rfl rfl (o_bS (l := [_, _]) (pv_cons (by conv => lhs; whnf) (pv_cons (by conv => lhs; whnf) pv_nil)) Try.underlying72 z72 (pl72 Try.underlying72) rfl) ?_; refine th_one (i := 17) (by kernel_rfl) ?_; refine oh_x (i := 17) (listed' := #[tt,tt,tt,tt,tt,tt,tt,tt,tt,tt,tt,tt,tt,tt,tt,tt,tt,tt,ff,ff,ff,ff]) rfl rfl rfl (o_buildSliceK Try.underlying74 sz72 z72 rfl (by first | rfl | simp) (by decide)) ?_; rintro _ _ ⟨b63, rfl, rfl⟩; refine ⟨by repeat (first | with_reducible exact dr_refl | apply dr_keep | apply dr_drop), ?_⟩; refine th_one (i := 18) (by kernel_rfl) ?_; refine oh_x (i := 18) (listed' := #[tt,tt,tt,tt,tt,tt,tt,tt,tt,tt,tt,tt,tt,tt,tt,tt,tt,tt,tt,ff,ff,ff]) rfl rfl rfl (o_apB Try.underlying74 Try.underlying74 sz72 by72 z72 rfl (by decide) (by decide) rfl rfl rfl (by repeat (first | with_reducible exact ct_here | apply ct_left)) rfl (by first | exact bys_all _ | exact ints_all _ | exact wds_all _ | exact bos_all _ | rfl) (by first | omega | (simp only [bys_length, ints_length, wds_length, bos_length, List.length_append, List.length_take, List.length_drop, List.length_singleton]; omega)) (by first | exact bys_sn _ _ | exact ints_sn _ _ | exact wds_sn _ _ | exact bos_sn _ _ | exact (bys_append _ _).symm | rfl)) ?_
                rintro _ _ ⟨a64, c64, rfl, hc64, rfl⟩; refine ⟨by repeat (first | with_reducible exact dr_refl | apply dr_keep | apply dr_drop), ?_⟩; refine th_take (i := 19) (listed' := #[tt,tt,tt,tt,tt,tt,tt,tt,tt,tt,tt,tt,tt,tt,tt,tt,tt,tt,tt,tt,ff,ff]) rfl (by kernel_rfl) (by kernel_rfl) (by kernel_rfl) rfl rfl (o_nilCheck rfl) ?_; refine th_take (i := 20) (listed' := #[tt,tt,tt,tt,tt,tt,tt,tt,tt,tt,tt,tt,tt,tt,tt,tt,tt,tt,tt,tt,tt,ff]) rfl (by kernel_rfl) (by kernel_rfl) (by kernel_rfl) rfl rfl (o_fieldAddr (o := 3) Try.underlying91 rfl rfl sz74 rfl) ?_; refine th_one (i := 21) (by kernel_rfl) ?_; refine oh_u (i := 21) (listed' := #[tt,tt,tt,tt,tt,tt,tt,tt,tt,tt,tt,tt,tt,tt,tt,tt,tt,tt,tt,tt,tt,tt]) rfl rfl rfl (o_stU (l' := rdcs lv2 { s with arms := s.arms ++ ars.take i } (.slice a64 ((s.arms ++ ars.take i).length + 1) c64)) rfl (by repeat (first | with_reducible exact upd_here | with_reducible exact upd_pt | apply upd_left)) sz74 rfl rfl (by show 3 < 6; decide) rfl) (by repeat (first | with_reducible exact dr_refl | apply dr_keep | apply dr_drop)) ?_; refine th_done (by kernel_rfl) ?_; refine q_block_n (q_then_n ?_)
                have hw3 : WfD { { s with arms := s.arms ++ ars.take i } with arms := { s with arms := s.arms ++ ars.take i }.arms ++ [ars[i]] } := by
                  show WfD { s with arms := (s.arms ++ ars.take i) ++ [ars[i]] }
                  rw [List.append_assoc, ← List.take_succ_eq_append_getElem hi]
                  exact arm_wf hw (by rw [List.length_take]; omega) (by rw [List.any_eq_false] at hnb ⊢; exact fun x hx => hnb x (List.mem_of_mem_take hx)) (fun x hx => by have := hk x (List.mem_of_mem_take hx); exact ⟨this.1.2, this.2⟩)
                refine tc_pre (A' := F * RDev r { { s with arms := s.arms ++ ars.take i } with arms := { s with arms := s.arms ++ ars.take i }.arms ++ [ars[i]] }) (fun _ _ h => rarm_back (F := F) (r := r) (J := emp) (v := .slice a61 ars[i].2.length c61) (av := .slice a64 ((s.arms ++ ars.take i).length + 1) c64) hw3 hmap2 hkv3 (h.perm (by rw [star_emp]; first | rfl | ac_rfl))) ?_; refine tc_reg ?_; refine tlm ?_; refine tv (by first | exact o_addI rfl rfl (by omega) | exact o_add rfl rfl) ?_; refine tla ?_; refine nq ?_; exact ⟨_, by omega, i + 1, by omega, rfl, rfl, rfl, rfl, by rw [List.take_succ_eq_append_getElem hi, ← List.append_assoc]⟩
              · skip
                refine oh_c (i := 15) (listed' := #[tt,tt,tt,tt,ff,tt,tt,tt,tt,tt,tt,tt,tt,tt,tt,tt,ff,ff,ff,ff,ff,ff]) rfl rfl rfl (o_call bd29 rfl (CopyInts_c (xs := ars[i].2))) ?_; rintro _ _ ⟨a61, c61, rfl, hc61, rfl⟩; refine ⟨by repeat (first | with_reducible exact dr_refl | apply dr_keep | apply dr_drop), ?_⟩; refine th_take (i := 16) (listed' := #[tt,tt,tt,tt,ff,tt,tt,tt,tt,tt,tt,tt,tt,tt,tt,tt,tt,ff,ff,ff,ff,ff]) rfl (by kernel_rfl) (by kernel_rfl) (by kernel_rfl) rfl rfl (o_bS (l := [_, _]) (pv_cons (by conv => lhs; whnf) (pv_cons (by conv => lhs; whnf) pv_nil)) Try.underlying72 z72 (pl72 Try.underlying72) rfl) ?_; refine th_two (i := 4) (j := 17) (by kernel_rfl) ?_ ?_
                · skip
                  refine oh_v (i := 4) (listed' := #[tt,tt,tt,tt,tt,tt,tt,tt,tt,tt,tt,tt,tt,tt,tt,tt,tt,ff,ff,ff,ff,ff]) rfl rfl rfl (o_load p74 rfl (by repeat (first | with_reducible exact has_here | with_reducible exact has_pt | apply has_left)) rfl) ?_; refine th_one (i := 17) (by kernel_rfl) ?_; refine oh_x (i := 17) (listed' := #[tt,tt,tt,tt,tt,tt,tt,tt,tt,tt,tt,tt,tt,tt,tt,tt,tt,tt,ff,ff,ff,ff]) rfl rfl rfl (o_buildSliceK Try.underlying74 sz72 z72 rfl (by first | rfl | simp) (by decide)) ?_; rintro _ _ ⟨b63, rfl, rfl⟩; refine ⟨by repeat (first | with_reducible exact dr_refl | apply dr_keep | apply dr_drop), ?_⟩; refine th_one (i := 18) (by kernel_rfl) ?_; refine oh_x (i := 18) (listed' := #[tt,tt,tt,tt,tt,tt,tt,tt,tt,tt,tt,tt,tt,tt,tt,tt,tt,tt,tt,ff,ff,ff]) rfl rfl rfl (o_apB Try.underlying74 Try.underlying74 sz72 by72 z72 rfl (by decide) (by decide) rfl rfl rfl (by repeat (first | with_reducible exact ct_here | apply ct_left)) rfl (by first | exact bys_all _ | exact ints_all _ | exact wds_all _ | exact bos_all _ | rfl) (by first | omega | (simp only [bys_length, ints_length, wds_length, bos_length, List.length_append, List.length_take, List.length_drop, List.length_singleton]; omega)) (by first | exact bys_sn _ _ | exact ints_sn _ _ | exact wds_sn _ _ | exact bos_sn _ _ | exact (bys_append _ _).symm | rfl)) ?_; rintro _ _ ⟨a64, c64, rfl, hc64, rfl⟩; refine ⟨by repeat (first | with_reducible exact dr_refl | apply dr_keep | apply dr_drop), ?_⟩
                  refine th_take (i := 19) (listed' := #[tt,tt,tt,tt,tt,tt,tt,tt,tt,tt,tt,tt,tt,tt,tt,tt,tt,tt,tt,tt,ff,ff]) rfl (by kernel_rfl) (by kernel_rfl) (by kernel_rfl) rfl rfl (o_nilCheck rfl) ?_; refine th_take (i := 20) (listed' := #[tt,tt,tt,tt,tt,tt,tt,tt,tt,tt,tt,tt,tt,tt,tt,tt,tt,tt,tt,tt,tt,ff]) rfl (by kernel_rfl) (by kernel_rfl) (by kernel_rfl) rfl rfl (o_fieldAddr (o := 3) Try.underlying91 rfl rfl sz74 rfl) ?_; refine th_one (i := 21) (by kernel_rfl) ?_; refine oh_u (i := 21) (listed' := #[tt,tt,tt,tt,tt,tt,tt,tt,tt,tt,tt,tt,tt,tt,tt,tt,tt,tt,tt,tt,tt,tt]) rfl rfl rfl (o_stU (l' := rdcs lv2 { s with arms := s.arms ++ ars.take i } (.slice a64 ((s.arms ++ ars.take i).length + 1) c64)) rfl (by repeat (first | with_reducible exact upd_here | with_reducible exact upd_pt | apply upd_left)) sz74 rfl rfl (by show 3 < 6; decide) rfl) (by repeat (first | with_reducible exact dr_refl | apply dr_keep | apply dr_drop)) ?_; refine th_done (by kernel_rfl) ?_; refine q_block_n (q_then_n ?_)
                  have hw3 : WfD { { s with arms := s.arms ++ ars.take i } with arms := { s with arms := s.arms ++ ars.take i }.arms ++ [ars[i]] } := by
                    show WfD { s with arms := (s.arms ++ ars.take i) ++ [ars[i]] }
                    rw [List.append_assoc, ← List.take_succ_eq_append_getElem hi]
                    exact arm_wf hw (by rw [List.length_take]; omega) (by rw [List.any_eq_false] at hnb ⊢; exact fun x hx => hnb x (List.mem_of_mem_take hx)) (fun x hx => by have := hk x (List.mem_of_mem_take hx); exact ⟨this.1.2, this.2⟩)
                  refine tc_pre (A' := F * RDev r { { s with arms := s.arms ++ ars.take i } with arms := { s with arms := s.arms ++ ars.take i }.arms ++ [ars[i]] }) (fun _ _ h => rarm_back (F := F) (r := r) (J := emp) (v := .slice a61 ars[i].2.length c61) (av := .slice a64 ((s.arms ++ ars.take i).length + 1) c64) hw3 hmap2 hkv3 (h.perm (by rw [star_emp]; first | rfl | ac_rfl))) ?_; refine tc_reg ?_; refine tlm ?_; refine tv (by first | exact o_addI rfl rfl (by omega) | exact o_add rfl rfl) ?_; refine tla ?_; refine nq ?_; exact ⟨_, by omega, i + 1, by omega, rfl, rfl, rfl, rfl, by rw [List.take_succ_eq_append_getElem hi, ← List.append_assoc]⟩
                · skip
                  refine oh_x (i := 17) (listed' := #[tt,tt,tt,tt,ff,tt,tt,tt,tt,tt,tt,tt,tt,tt,tt,tt,tt,tt,ff,ff,ff,ff]) rfl rfl rfl (o_buildSliceK Try.underlying74 sz72 z72 rfl (by first | rfl | simp) (by decide)) ?_; rintro _ _ ⟨b63, rfl, rfl⟩; refine ⟨by repeat (first | with_reducible exact dr_refl | apply dr_keep | apply dr_drop), ?_⟩; refine th_one (i := 4) (by kernel_rfl) ?_; refine oh_v (i := 4) (listed' := #[tt,tt,tt,tt,tt,tt,tt,tt,tt,tt,tt,tt,tt,tt,tt,tt,tt,tt,ff,ff,ff,ff]) rfl rfl rfl (o_load p74 rfl (by repeat (first | with_reducible exact has_here | with_reducible exact has_pt | apply has_left)) rfl) ?_; refine th_one (i := 18) (by kernel_rfl) ?_; refine oh_x (i := 18) (listed' := #[tt,tt,tt,tt,tt,tt,tt,tt,tt,tt,tt,tt,tt,tt,tt,tt,tt,tt,tt,ff,ff,ff]) rfl rfl rfl (o_apB Try.underlying74 Try.underlying74 sz72 by72 z72 rfl (by decide) (by decide) rfl rfl rfl (by repeat (first | with_reducible exact ct_here | apply ct_left)) rfl (by first | exact bys_all _ | exact ints_all _ | exact wds_all _ | exact bos_all _ | rfl) (by first | omega | (simp only [bys_length, ints_length, wds_length, bos_length, List.length_append, List.length_take, List.length_drop, List.length_singleton]; omega)) (by first | exact bys_sn _ _ | exact ints_sn _ _ | exact wds_sn _ _ | exact bos_sn _ _ | exact (bys_append _ _).symm | rfl)) ?_; rintro _ _ ⟨a64, c64, rfl, hc64, rfl⟩; refine ⟨by repeat (first | with_reducible exact dr_refl | apply dr_keep | apply dr_drop), ?_⟩
                  refine th_take (i := 19) (listed' := #[tt,tt,tt,tt,tt,tt,tt,tt,tt,tt,tt,tt,tt,tt,tt,tt,tt,tt,tt,tt,ff,ff]) rfl (by kernel_rfl) (by kernel_rfl) (by kernel_rfl) rfl rfl (o_nilCheck rfl) ?_; refine th_take (i := 20) (listed' := #[tt,tt,tt,tt,tt,tt,tt,tt,tt,tt,tt,tt,tt,tt,tt,tt,tt,tt,tt,tt,tt,ff]) rfl (by kernel_rfl) (by kernel_rfl) (by kernel_rfl) rfl rfl (o_fieldAddr (o := 3) Try.underlying91 rfl rfl sz74 rfl) ?_; refine th_one (i := 21) (by kernel_rfl) ?_; refine oh_u (i := 21) (listed' := #[tt,tt,tt,tt,tt,tt,tt,tt,tt,tt,tt,tt,tt,tt,tt,tt,tt,tt,tt,tt,tt,tt]) rfl rfl rfl (o_stU (l' := rdcs lv2 { s with arms := s.arms ++ ars.take i } (.slice a64 ((s.arms ++ ars.take i).length + 1) c64)) rfl (by repeat (first | with_reducible exact upd_here | with_reducible exact upd_pt | apply upd_left)) sz74 rfl rfl (by show 3 < 6; decide) rfl) (by repeat (first | with_reducible exact dr_refl | apply dr_keep | apply dr_drop)) ?_; refine th_done (by kernel_rfl) ?_; refine q_block_n (q_then_n ?_)
                  have hw3 : WfD { { s with arms := s.arms ++ ars.take i } with arms := { s with arms := s.arms ++ ars.take i }.arms ++ [ars[i]] } := by
                    show WfD { s with arms := (s.arms ++ ars.take i) ++ [ars[i]] }
                    rw [List.append_assoc, ← List.take_succ_eq_append_getElem hi]
                    exact arm_wf hw (by rw [List.length_take]; omega) (by rw [List.any_eq_false] at hnb ⊢; exact fun x hx => hnb x (List.mem_of_mem_take hx)) (fun x hx => by have := hk x (List.mem_of_mem_take hx); exact ⟨this.1.2, this.2⟩)
                  refine tc_pre (A' := F * RDev r { { s with arms := s.arms ++ ars.take i } with arms := { s with arms := s.arms ++ ars.take i }.arms ++ [ars[i]] }) (fun _ _ h => rarm_back (F := F) (r := r) (J := emp) (v := .slice a61 ars[i].2.length c61) (av := .slice a64 ((s.arms ++ ars.take i).length + 1) c64) hw3 hmap2 hkv3 (h.perm (by rw [star_emp]; first | rfl | ac_rfl))) ?_; refine tc_reg ?_; refine tlm ?_; refine tv (by first | exact o_addI rfl rfl (by omega) | exact o_add rfl rfl) ?_; refine tla ?_; refine nq ?_; exact ⟨_, by omega, i + 1, by omega, rfl, rfl, rfl, rfl, by rw [List.take_succ_eq_append_getElem hi, ← List.append_assoc]⟩
            · try simp only [lv1, lv2, lv3, lv4, lv5, lv6, Bool.not_true, Bool.not_false] at h
              refine tc_exit ?_; refine q_then_e (q_then_e (q_block_x (q_then_n ?_))); refine sr ?_; refine tla ?_; refine nq ?_; refine tc_ret ?_
              obtain rfl : m = i := by omega
              have hs2 : armS ars s = (0, { s with arms := s.arms ++ ars }) := by unfold armS; rw [if_neg (by rw [hoff]; decide), if_neg (by rw [hnb]; decide), if_neg (by omega)]
              rw [hs2, List.take_of_length_le (show ars.length ≤ m by omega)]
              exact ⟨.int .i64 0, F * RDev r { s with arms := s.arms ++ ars }, res1 rfl rfl, Dr.sat (by repeat (first | with_reducible exact dr_refl | apply dr_keep | apply dr_drop)), rfl, rfl⟩
end Go.Vl

set_option linter.unusedVariables false
set_option linter.unusedSimpArgs false
namespace Go.Vl
open Go Go.Proofs
theorem img_getR {s : DevS} {q : Nat} (hw : WfD s) (hi : q / 64 < s.ls.length) : (imgS s)[q]? = (lb (seenL s.ls[q / 64]))[q % 64]? := by
  have hwl := hw.line _ (List.getElem_mem hi)
  have h8 := seen8 hwl
  have e := img_at hw.line hi
  have h1 : (imgS s)[q]? = ((imgS s).drop (q / 64 * 64))[q % 64]? := by rw [List.getElem?_drop]; congr 1; omega
  rw [h1]; unfold imgS; rw [e, List.getElem?_append_left (by omega)]
theorem nm_rep0 : ∀ k, nm (List.replicate k 0) = 0
  | 0 => rfl
  | k + 1 => by rw [List.replicate_succ]; show 0 + 256 * nm (List.replicate k 0) = 0; rw [nm_rep0 k]
theorem fromS_zero (n : Nat) : fromS n (List.replicate (n * 64) 0) = newS n := by
  have hz : ∀ i, lineF (List.replicate (n * 64) 0) i = zline := fun i => by
    unfold lineF zline
    congr 2
    apply List.ext_getElem
    · simp
    · intro j h1 h2
      simp only [List.getElem_mapIdx, List.getElem_replicate, wordF, List.drop_replicate, List.take_replicate]
      exact nm_rep0 _
  unfold fromS
  have : (newS n).ls.mapIdx (fun i _ => lineF (List.replicate (n * 64) 0) i) = (newS n).ls := by
    simp only [hz]
    apply List.ext_getElem
    · simp
    · intro j h1 h2; simp [newS]
  rw [this]
theorem fromS_len (n : Nat) (xs : List Nat) : (fromS n xs).ls.length = n := by simp [fromS, newS]
theorem fromS_at {n : Nat} (xs : List Nat) {i : Nat} (h : i < n) : (fromS n xs).ls[i]'(by rw [fromS_len]; exact h) = lineF xs i := by simp [fromS]
theorem bys_rep (k : Nat) : List.replicate k (.int .u8 0) = bys (List.replicate k 0) := by simp [bys, b8]
attribute [local irreducible] Sl pt ro
theorem CopyRows_c {A : SP} {a : Option Addr} {c m : Nat} {vs : List Value} {ls : List (List Nat)} (hr : Rs A a vs) (hv : vs.length = ls.length) (hrow : ∀ i (h : i < ls.length), ∃ b c, vs[i]? = some (.slice b ls[i].length c) ∧ Rs A b (bys ls[i])) (hm : ls.length = m) (hl : m ≤ 2199023255552) (hll : ∀ l ∈ ls, l.length ≤ 140737488351232) :
    Fn Try.prog 131 #[.slice a m c] (A) (fun v B => ∃ a c vs, v = .slice a m c ∧ m ≤ c ∧ B = A * Parts vs ls * Sl 1 (.slice a m c) m vs) := by
  refine fn_enterW (args := [.slice a m c]) Try.func131 rfl Try.ntmps131 (by simp) ?_; refine sr ?_; refine tla ?_; refine nq ?_; refine sr ?_; refine tla ?_; refine nq ?_; refine tc_seq ?_; refine tc_seq ?_; refine tc_pre (A' := A * Parts [] [] * Sl 1 (.slice none 0 0) 0 []) (fun _ _ h => by rw [show Parts [] [] = emp from rfl, star_emp]; exact sl_nil h) ?_; refine tc_reg ?_; refine tla ?_; refine nq ?_; refine tc_block ?_; refine tc_loop (fun kk ρ BB => ∃ (i : Nat) (a3 : Option Addr) (c3 : Nat) (vs2 : List Value), (i ≤ m) ∧ (vs2.length = i) ∧ (i ≤ c3) ∧ kk = m - i ∧ ρ 3 = .slice a3 i c3 ∧ ρ 4 = .int .i64 (i : Nat) ∧ ρ 0 = .slice a m c ∧ BB = A * Parts vs2 (ls.take i) * Sl 1 (.slice a3 i c3) i vs2) (m := m - (0)) ?_ ?_
  · exact ⟨0, none, 0, [], by omega, rfl, by omega, rfl, rfl, rfl, rfl, rfl⟩
  · intro k ρ B hI
    obtain ⟨i, a3, c3, vs2, hp0, hp1, hp2, hkk1, hE3, hE4, hE0, rfl⟩ := hI
    refine tc_env (d := 3) hE3 ?_; refine tc_env (d := 4) hE4 ?_; refine tc_env (d := 0) hE0 ?_
    clear hE3 hE4 hE0
    refine tc_seq ?_; refine sr ?_; refine tlm ?_; refine tlm ?_; refine tv (o_len Try.underlying33 rfl) ?_; refine tv (o_lss rfl rfl) ?_; refine nq ?_; refine tc_cond rfl (fun h => ?_) (fun h => ?_)
    · have hi : i < ls.length := by simp at h; omega
      obtain ⟨b, cb, g1, hrr⟩ := hrow i hi
      have hln := hll _ (List.getElem_mem hi)
      refine tc_skip ?_; refine q_then_n ?_; refine tc_seq ?_; refine tc_block ?_; refine tc_reg ?_; refine tlm ?_; refine tlm ?_; refine tlm ?_; refine tv (o_ixP1 Try.underlying33 sz28 rfl rfl (by omega) (nn_rs hr.left.left (fun _ => by omega))) ?_; refine tv (o_ldP p28 rfl hr.left.left g1) ?_; refine tl_c rfl (o_call bd39 rfl (CopyBytes_c (xs := ls[i]) (hr := hrr.left.left))) ?_; rintro _ _ ⟨a16, c16, rfl, hc16, rfl⟩; refine tl_x rfl (o_buildSlice1 Try.underlying33 sz28 z28 (by conv => lhs; whnf) rfl) ?_; rintro _ _ ⟨b17, rfl, rfl⟩; refine tl_x rfl (o_apB Try.underlying33 Try.underlying33 sz28 by28 z28 rfl (by decide) (by decide) rfl rfl rfl (by repeat (first | with_reducible exact ct_here | apply ct_left)) rfl (by first | exact bys_all _ | exact ints_all _ | exact wds_all _ | exact bos_all _ | rfl) (by first | omega | (simp only [bys_length, ints_length, wds_length, bos_length, List.length_append, List.length_take, List.length_drop, List.length_singleton]; omega)) (by first | exact bys_sn _ _ | exact ints_sn _ _ | exact wds_sn _ _ | exact bos_sn _ _ | exact (bys_append _ _).symm | rfl)) ?_; rintro _ _ ⟨a18, c18, rfl, hc18, rfl⟩; refine tla ?_; refine tl_nil ?_; refine q_block_n (q_then_n ?_); refine tc_reg ?_; refine tlm ?_; refine tv (by first | exact o_addI rfl rfl (by omega) | exact o_add rfl rfl) ?_; refine tla ?_; refine nq ?_; exact ⟨_, by omega, i + 1, a18, c18, vs2 ++ [.slice a16 ls[i].length c16], by omega, by simp [hp1], hc18, rfl, rfl, rfl, rfl, by rw [List.take_succ_eq_append_getElem hi, parts_snoc (by rw [List.length_take]; omega)]; ac_rfl⟩
    · obtain rfl : i = m := by simp at h; omega
      rw [List.take_of_length_le (by omega)]
      refine tc_exit ?_; refine q_then_e (q_then_e (q_block_x (q_then_n ?_))); refine sr ?_; refine tlm ?_; refine tla ?_; refine nq ?_; refine tc_ret ?_; exact ⟨.slice a3 i c3, _, res1 rfl rfl, Dr.sat (by repeat (first | with_reducible exact dr_refl | apply dr_keep | apply dr_drop)), a3, c3, vs2, rfl, hp2, rfl⟩
theorem rContents_f (A : SP) {r : Nat} {lv av : Value} {rls : List RL} {s : DevS} (hR : RdevR A r lv rls av s) {q : Nat} (hq : q < s.ls.length) :
    Fn Try.prog 82 #[.pointer (some ⟨r, 0, none⟩), .int .i64 (q : Nat)] (A) (fun v B => ∃ X, B = A * X ∧ ∃ a c vs, v = .slice a (ctS q s).length c ∧ (ctS q s).length ≤ c ∧ X = Parts vs (ctS q s) * Sl 1 (.slice a (ctS q s).length c) (ctS q s).length vs) := by
  refine fn_enterW (args := [.pointer (some ⟨r, 0, none⟩), .int .i64 (q : Nat)]) Try.func82 rfl Try.ntmps82 (by simp) ?_
  obtain ⟨bl, ol, cl_, rfl, hlc, hlr⟩ := hR.lv
  have hlen := hR.len
  have htop := hR.wf.top
  have hir : q < rls.length := by omega
  obtain ⟨ba, oa, ca, g1, hca, har⟩ := hR.allC hir
  have hrl := hR.rows hir hq
  have hsm := hR.small hir
  have hct := ctS_at hq
  have hwl := hR.wf.line _ (List.getElem_mem hq)
  have hcl : (ctS q s).length = rls[q].rows.length := by rw [hct, List.length_map, hrl]
  rw [hcl]
  refine sr ?_; refine tla ?_; refine nq ?_; refine tc_seq ?_; refine sr ?_; refine tlm ?_; refine tv (o_lss rfl rfl) ?_; refine tlm ?_; refine tl_bool (d := 7) rfl (fun h => ?_) (fun h => ?_)
  · exfalso; simp at h; omega
  · try simp only [lv1, lv2, lv3, lv4, lv5, lv6, Bool.not_true, Bool.not_false] at h
    refine tlm ?_; refine tlm ?_; refine tv (o_nilCheck rfl) ?_; refine tv (o_fieldAddr (o := 1) Try.underlying91 rfl rfl sz89 rfl) ?_; refine tv (o_ldP (a := some ⟨r, 0, none⟩) (i := 1) p89 rfl (by repeat (first | exact hR.d | apply Rs.left)) rfl) ?_; refine tv (o_len Try.underlying89 rfl) ?_; refine tv (o_geq rfl rfl) ?_; refine tv (o_pick_f rfl (by conv => lhs; whnf)) ?_; refine nq ?_; refine tc_cond rfl (fun h => ?_) (fun h => ?_)
    · exfalso; simp at h; omega
    · try simp only [lv1, lv2, lv3, lv4, lv5, lv6, Bool.not_true, Bool.not_false] at h
      refine tc_skip ?_; refine q_then_n ?_; refine sr ?_; refine tlm ?_; refine tv (o_nilCheck rfl) ?_; refine tv (o_fieldAddr (o := 1) Try.underlying91 rfl rfl sz89 rfl) ?_; refine tv (o_ldP (a := some ⟨r, 0, none⟩) (i := 1) p89 rfl (by repeat (first | exact hR.d | apply Rs.left)) rfl) ?_; refine tlm ?_; refine tv (o_ixP Try.underlying89 sz176 rfl rfl (by first | omega | (simp only [bys_length, ints_length, wds_length, bos_length, List.length_append, List.length_take, List.length_drop, List.length_singleton]; omega)) (by repeat (first | exact nn_some | with_reducible exact nn_sl (by decide) | exact nn_rs (by assumption) (fun _ => by first | omega | (simp only [bys_length, ints_length, wds_length, bos_length, List.length_append, List.length_take, List.length_drop, List.length_singleton]; omega)) | apply Nn.left))) ?_; refine tv (o_faP (m := 0) (o := 0) Try.underlying176 rfl rfl sz33 rfl (by repeat (first | exact nn_some | with_reducible exact nn_sl (by decide) | exact nn_rs (by assumption) (fun _ => by first | omega | (simp only [bys_length, ints_length, wds_length, bos_length, List.length_append, List.length_take, List.length_drop, List.length_singleton]; omega)) | apply Nn.left))) ?_; refine tv (o_ldP p33 rfl (by repeat (first | assumption | with_reducible exact rs_sl | with_reducible exact rs_pt0 | exact rs_none | apply Rs.left)) (by first | assumption | exact bys_at (by omega) | exact ints_at (by omega) | exact wds_at (by omega) | exact bos_at (by omega) | rfl)) ?_
      refine tl_c rfl (o_call bd131 rfl (CopyRows_c (vs := rls[q].rows.map Prod.fst) (ls := ctS q s) (hr := har) (hv := by rw [List.length_map, hcl]) (hrow := fun i hi => by
          have hi2 : i < rls[q].rows.length := by omega
          obtain ⟨b, o, c, e1, e2, e3⟩ := hR.row q hir i hi2
          have e4 := hR.snd hir hq hi2
          have e5 : (ctS q s)[i] = lb rls[q].rows[i].2 := by simp only [hct, List.getElem_map, e4]
          have e6 : (lb rls[q].rows[i].2).length = 64 := lb_len (by rw [e4]; exact hwl.eight _ (List.getElem_mem _))
          refine ⟨_, c, ?_, e5 ▸ e3⟩
          rw [List.getElem?_map, List.getElem?_eq_getElem hi2, e5, e6]; simp [e1]) (hm := hcl) (hl := by omega) (hll := fun l hl => by
          rw [hct] at hl; obtain ⟨w, hw, rfl⟩ := List.mem_map.1 hl; rw [lb_len (hwl.eight _ hw)]; omega))) ?_
      rintro _ _ ⟨a24, c24, vs24, rfl, hc24, rfl⟩; refine tla ?_; refine nq ?_; refine tc_ret ?_; exact ⟨.slice a24 rls[q].rows.length c24, _, res1 rfl rfl, fun _ _ h => h, _, star_assoc _ _ _, a24, c24, vs24, rfl, hc24, rfl⟩
theorem rContentsNo_f (A : SP) {r : Nat} {lv av : Value} {rls : List RL} {s : DevS} (hR : RdevR A r lv rls av s) {p : Int} (hno : p < 0 ∨ (s.ls.length : Int) ≤ p) :
    Fn Try.prog 82 #[.pointer (some ⟨r, 0, none⟩), .int .i64 p] (A) (fun v B => v = .slice none 0 0 ∧ A = B) := by
  refine fn_enterW (args := [.pointer (some ⟨r, 0, none⟩), .int .i64 p]) Try.func82 rfl Try.ntmps82 (by simp) ?_
  obtain ⟨bl, ol, cl_, rfl, hlc, hlr⟩ := hR.lv
  have hlen := hR.len
  have htop := hR.wf.top
  refine sr ?_; refine tla ?_; refine nq ?_; refine tc_seq ?_; refine sr ?_; refine tlm ?_; refine tv (o_lss rfl rfl) ?_; refine tlm ?_; refine tl_bool (d := 7) rfl (fun h => ?_) (fun h => ?_)
  · try simp only [lv1, lv2, lv3, lv4, lv5, lv6, Bool.not_true, Bool.not_false] at h
    refine tk ?_; refine tk ?_; refine tk ?_; refine tk ?_; refine tk ?_; refine tk ?_; refine tk ?_; refine tv (o_pick_t rfl (by conv => lhs; whnf)) ?_; refine nq ?_; refine tc_cond_t rfl ?_; refine sr ?_; refine tla ?_; refine nq ?_; refine tc_ret ?_; refine q_then_r ?_; refine ⟨_, _, res1 rfl rfl, ?_, rfl, rfl⟩; exact Dr.sat (by repeat (first | with_reducible exact dr_refl | apply dr_keep | apply dr_drop))
  · try simp only [lv1, lv2, lv3, lv4, lv5, lv6, Bool.not_true, Bool.not_false] at h
    refine tlm ?_; refine tlm ?_; refine tv (o_nilCheck rfl) ?_; refine tv (o_fieldAddr (o := 1) Try.underlying91 rfl rfl sz89 rfl) ?_; refine tv (o_ldP (a := some ⟨r, 0, none⟩) (i := 1) p89 rfl (by repeat (first | exact hR.d | apply Rs.left)) rfl) ?_; refine tv (o_len Try.underlying89 rfl) ?_; refine tv (o_geq rfl rfl) ?_; refine tv (o_pick_f rfl (by conv => lhs; whnf)) ?_; refine nq ?_; refine tc_cond rfl (fun h => ?_) (fun h => ?_)
    · try simp only [lv1, lv2, lv3, lv4, lv5, lv6, Bool.not_true, Bool.not_false] at h
      refine sr ?_; refine tla ?_; refine nq ?_; refine tc_ret ?_; refine q_then_r ?_; refine ⟨_, _, res1 rfl rfl, ?_, rfl, rfl⟩; exact Dr.sat (by repeat (first | with_reducible exact dr_refl | apply dr_keep | apply dr_drop))
    · exfalso; simp at h; omega
theorem rImage_f (A : SP) {r : Nat} {lv av : Value} {rls : List RL} {s : DevS} (hR : RdevR A r lv rls av s) :
    Fn Try.prog 70 #[.pointer (some ⟨r, 0, none⟩)] (A) (fun v B => ∃ X, B = A * X ∧ ∃ a c, v = .slice a (s.ls.length * 64) c ∧ s.ls.length * 64 ≤ c ∧ X = Sl 1 (.slice a (s.ls.length * 64) c) (s.ls.length * 64) (bys (imgS s))) := by
  refine fn_enterW (args := [.pointer (some ⟨r, 0, none⟩)]) Try.func70 rfl Try.ntmps70 (by simp) ?_
  obtain ⟨bl, ol, cl_, rfl, hlc, hlr⟩ := hR.lv
  have hlen := hR.len
  have htop := hR.wf.top
  refine sr ?_; refine tla ?_; refine nq ?_; refine sr ?_; refine tla ?_; refine nq ?_; refine tc_seq ?_; refine tc_seq ?_; refine tc_pre (A' := A * Sl 1 (.slice none 0 0) 0 []) (fun _ _ h => sl_nil h) ?_; refine tc_reg ?_; refine tla ?_; refine nq ?_; refine tc_block ?_; refine tc_loop (fun kk ρ BB => ∃ (i : Nat) (a3 : Option Addr) (c3 : Nat), (i ≤ s.ls.length) ∧ (i * 64 ≤ c3) ∧ kk = s.ls.length - i ∧ ρ 3 = .slice a3 (i * 64) c3 ∧ ρ 4 = .int .i64 (i : Nat) ∧ ρ 0 = .pointer (some ⟨r, 0, none⟩) ∧ BB = A * Sl 1 (.slice a3 (i * 64) c3) (i * 64) (bys (img (s.ls.take i)))) (m := s.ls.length - (0)) ?_ ?_
  · exact ⟨0, none, 0, by omega, by omega, rfl, rfl, rfl, rfl, rfl⟩
  · intro k ρ B hI
    obtain ⟨i, a3, c3, hp0, hp1, hkk1, hE3, hE4, hE0, rfl⟩ := hI
    refine tc_env (d := 3) hE3 ?_; refine tc_env (d := 4) hE4 ?_; refine tc_env (d := 0) hE0 ?_
    clear hE3 hE4 hE0
    refine tc_seq ?_; refine sr ?_; refine tlm ?_; refine tlm ?_; refine tv (o_nilCheck rfl) ?_; refine tv (o_fieldAddr (o := 1) Try.underlying91 rfl rfl sz89 rfl) ?_; refine tv (o_ldP (a := some ⟨r, 0, none⟩) (i := 1) p89 rfl (by repeat (first | exact hR.d | apply Rs.left)) rfl) ?_; refine tv (o_len Try.underlying89 rfl) ?_; refine tv (o_lss rfl rfl) ?_; refine nq ?_; refine tc_cond rfl (fun h => ?_) (fun h => ?_)
    · have hi : i < s.ls.length := by simp at h; omega
      have hir : i < rls.length := by omega
      obtain ⟨br, orr, cr, ht, hcr, hrr⟩ := hR.top hir hi
      have hs8 := seen8 (hR.wf.line _ (List.getElem_mem hi))
      refine tc_skip ?_; refine q_then_n ?_; refine tc_seq ?_; refine tc_block ?_; refine tc_reg ?_; refine tlm ?_; refine tlm ?_; refine tlm ?_; refine tl_c rfl (o_call bd127 rfl (rseen_f _ hR.left hir ht)) ?_; rintro _ _ ⟨rfl, rfl⟩; refine tl_x rfl (o_apR Try.underlying28 Try.underlying28 sz5 by5 z5 rfl (by decide) (by decide) rfl rfl (by repeat (first | with_reducible exact ct_here | apply ct_left)) hrr.left (by rw [bys_length, hs8]) (bys_all _) (by omega) rfl) ?_; rintro _ _ ⟨a18, c18, rfl, hc18, rfl⟩; refine tla ?_; refine tl_nil ?_; refine q_block_n (q_then_n ?_); refine tc_reg ?_; refine tlm ?_; refine tv (by first | exact o_addI rfl rfl (by omega) | exact o_add rfl rfl) ?_; refine tla ?_; refine nq ?_; exact ⟨_, by omega, i + 1, a18, c18, by omega, by omega, rfl, by show Value.slice a18 (i * 64 + 64) c18 = _; rw [show (i + 1) * 64 = i * 64 + 64 by omega], rfl, rfl, by rw [img_take hi, bys_append, show (i + 1) * 64 = i * 64 + 64 by omega]⟩
    · obtain rfl : i = s.ls.length := by simp at h; omega
      rw [List.take_length]
      refine tc_exit ?_; refine q_then_e (q_then_e (q_block_x (q_then_n ?_))); refine sr ?_; refine tlm ?_; refine tla ?_; refine nq ?_; refine tc_ret ?_; exact ⟨.slice a3 (s.ls.length * 64) c3, _, res1 rfl rfl, fun _ _ h => h, _, rfl, a3, c3, rfl, hp1, rfl⟩
theorem rLoad_f (A : SP) {r : Nat} {lv av : Value} {rls : List RL} {s : DevS} (hR : RdevR A r lv rls av s) {p m : Nat} (hoff : s.off = false) (hpm : p + m ≤ s.ls.length * 64) :
    Fn Try.prog 106 #[.pointer (some ⟨r, 0, none⟩), .int .i64 (p : Nat), .int .i64 (m : Nat)] (A) (fun v B => ∃ X, B = A * X ∧ ∃ a c, v = .tuple #[.slice a m c, .int .i64 0] ∧ m ≤ c ∧ X = Sl 1 (.slice a m c) m (bys (((imgS s).drop p).take m))) := by
  refine fn_enterW (args := [.pointer (some ⟨r, 0, none⟩), .int .i64 (p : Nat), .int .i64 (m : Nat)]) Try.func106 rfl Try.ntmps106 (by simp) ?_
  obtain ⟨bl, ol, cl_, rfl, hlc, hlr⟩ := hR.lv
  have hlen := hR.len
  have htop := hR.wf.top
  have hil := img_length hR.wf.line
  refine sr ?_; refine tla ?_; refine tla ?_; refine nq ?_; refine tc_seq ?_; refine sr ?_; refine tlm ?_; refine tv (o_nilCheck rfl) ?_; refine tv (o_fieldAddr (o := 5) Try.underlying91 rfl rfl sz4 rfl) ?_; refine tv (o_ldP (a := some ⟨r, 0, none⟩) (i := 5) p4 rfl (by repeat (first | exact hR.d | apply Rs.left)) rfl) ?_; refine nq ?_; refine tc_cond rfl (fun h => ?_) (fun h => ?_)
  · exfalso; rw [hoff] at h; cases h
  · try simp only [lv1, lv2, lv3, lv4, lv5, lv6, Bool.not_true, Bool.not_false] at h
    refine tc_skip ?_; refine q_then_n ?_; refine tc_seq ?_; refine sr ?_; refine tlm ?_; refine tlm ?_; refine tlm ?_; refine tl_c rfl (o_call bd136 rfl (rinside_f _ hR (by omega) (by omega))) ?_; rintro _ _ ⟨rfl, rfl⟩; refine tv (o_not rfl) ?_; refine nq ?_; refine tc_cond rfl (fun h => ?_) (fun h => ?_)
    · exfalso; simp at h; unfold rdy at h; rw [if_neg (by decide), if_neg (by omega)] at h; exact h rfl
    · try simp only [lv1, lv2, lv3, lv4, lv5, lv6, Bool.not_true, Bool.not_false] at h
      refine tc_skip ?_; refine q_then_n ?_; refine sr ?_; refine tla ?_; refine nq ?_; refine tc_seq ?_; refine tc_seq ?_; refine tc_pre (A' := A * Sl 1 (.slice none 0 0) 0 []) (fun _ _ h => sl_nil h) ?_; refine tc_reg ?_; refine tlm ?_; refine tla ?_; refine nq ?_; refine tc_block ?_; refine tc_loop (fun kk ρ BB => ∃ (j : Nat) (a3 : Option Addr) (c3 : Nat), (j ≤ m) ∧ (j ≤ c3) ∧ kk = m - j ∧ ρ 8 = .slice a3 j c3 ∧ ρ 9 = .int .i64 ((p + j : Nat) : Int) ∧ ρ 0 = .pointer (some ⟨r, 0, none⟩) ∧ ρ 1 = .int .i64 (p : Nat) ∧ ρ 2 = .int .i64 (m : Nat) ∧ BB = A * Sl 1 (.slice a3 j c3) j (bys (((imgS s).drop p).take j))) (m := m - (0)) ?_ ?_
      · exact ⟨0, none, 0, by omega, by omega, rfl, rfl, rfl, rfl, rfl, rfl, rfl⟩
      · intro k ρ B hI
        obtain ⟨j, a3, c3, hp0, hp1, hkk1, hE8, hE9, hE0, hE1, hE2, rfl⟩ := hI
        refine tc_env (d := 8) hE8 ?_; refine tc_env (d := 9) hE9 ?_; refine tc_env (d := 0) hE0 ?_; refine tc_env (d := 1) hE1 ?_; refine tc_env (d := 2) hE2 ?_
        clear hE8 hE9 hE0 hE1 hE2
        refine tc_seq ?_; refine sr ?_; refine tlm ?_; refine tlm ?_; refine tlm ?_; refine tv (by first | exact o_addI rfl rfl (by omega) | exact o_add rfl rfl) ?_; refine tv (o_lss rfl rfl) ?_; refine nq ?_; refine tc_cond rfl (fun h => ?_) (fun h => ?_)
        · have hj : j < m := by simp at h; omega
          have hi : (p + j) / 64 < s.ls.length := by omega
          have hir : (p + j) / 64 < rls.length := by omega
          obtain ⟨br, orr, cr, ht, hcr, hrr⟩ := hR.top hir hi
          have hs8 := seen8 (hR.wf.line _ (List.getElem_mem hi))
          have hjd : j < ((imgS s).drop p).length := by rw [List.length_drop]; unfold imgS; omega
          have hby : ((imgS s).drop p)[j] = (lb (seenL s.ls[(p + j) / 64]))[(p + j) % 64]'(by omega) := by
            have := img_getR hR.wf hi
            rw [List.getElem?_eq_getElem (show (p + j) % 64 < (lb (seenL s.ls[(p + j) / 64])).length by omega), ← List.getElem?_drop, List.getElem?_eq_getElem hjd] at this
            exact Option.some.inj this
          refine tc_skip ?_; refine q_then_n ?_; refine tc_seq ?_; refine tc_block ?_; refine tc_reg ?_; refine tlm ?_; refine tlm ?_; refine tlm ?_; refine tv (o_quoN (b := 64) rfl rfl (by omega)) ?_; refine tl_c rfl (o_call bd127 rfl (rseen_f _ hR.left (i := (p + j) / 64) hir ht)) ?_; rintro _ _ ⟨rfl, rfl⟩; refine tlm ?_; refine tv (o_remN (b := 64) rfl rfl (by omega)) ?_; refine tv (o_ixP1 Try.underlying28 sz5 rfl rfl (by first | omega | (simp only [bys_length, ints_length, wds_length, bos_length, List.length_append, List.length_take, List.length_drop, List.length_singleton]; omega)) (by repeat (first | exact nn_some | with_reducible exact nn_sl (by decide) | exact nn_rs (by assumption) (fun _ => by first | omega | (simp only [bys_length, ints_length, wds_length, bos_length, List.length_append, List.length_take, List.length_drop, List.length_singleton]; omega)) | apply Nn.left))) ?_; refine tv (o_ldP p5 rfl hrr.left (bys_at (by omega))) ?_; refine tl_x rfl (o_buildSlice1 Try.underlying28 sz5 z5 (by conv => lhs; whnf) rfl) ?_; rintro _ _ ⟨b36, rfl, rfl⟩; refine tl_x rfl (o_apB Try.underlying28 Try.underlying28 sz5 by5 z5 rfl (by decide) (by decide) rfl rfl rfl (by repeat (first | with_reducible exact ct_here | apply ct_left)) rfl (by first | exact bys_all _ | exact ints_all _ | exact wds_all _ | exact bos_all _ | rfl) (by first | omega | (simp only [bys_length, ints_length, wds_length, bos_length, List.length_append, List.length_take, List.length_drop, List.length_singleton]; omega)) (by first | exact bys_sn _ _ | exact ints_sn _ _ | exact wds_sn _ _ | exact bos_sn _ _ | exact (bys_append _ _).symm | rfl)) ?_
          rintro _ _ ⟨a37, c37, rfl, hc37, rfl⟩; refine tla ?_; refine tl_nil ?_; refine q_block_n (q_then_n ?_); refine tc_reg ?_; refine tlm ?_; refine tv (by first | exact o_addI rfl rfl (by omega) | exact o_add rfl rfl) ?_; refine tl_env (d := 26) (v := .int .i64 ((p + (j + 1) : Nat) : Int)) (rfl) ?_; refine tla ?_; refine nq ?_; exact ⟨_, by omega, j + 1, a37, c37, by omega, by omega, rfl, rfl, rfl, rfl, rfl, rfl, by rw [List.take_succ_eq_append_getElem hjd, hby]⟩
        · obtain rfl : j = m := by simp at h; omega
          refine tc_exit ?_; refine q_then_e (q_then_e (q_block_x (q_then_n ?_))); refine sr ?_; refine tlm ?_; refine tla ?_; refine tla ?_; refine nq ?_; refine tc_ret ?_; exact ⟨.tuple #[.slice a3 j c3, .int .i64 0], _, res2 rfl rfl rfl, fun _ _ h => h, _, rfl, a3, c3, rfl, hp1, rfl⟩
theorem rLoadNo_f (A : SP) {r : Nat} {lv av : Value} {rls : List RL} {s : DevS} (hR : RdevR A r lv rls av s) {p m : Int} (hp : -9223372036854775808 ≤ p ∧ p ≤ 9223372036854775807) (hm : -9223372036854775808 ≤ m ∧ m ≤ 9223372036854775807) (hno : rdy s.ls.length s.off p m ≠ 0) :
    Fn Try.prog 106 #[.pointer (some ⟨r, 0, none⟩), .int .i64 p, .int .i64 m] (A) (fun v B => v = .tuple #[.slice none 0 0, .int .i64 (rdy s.ls.length s.off p m)] ∧ A = B) := by
  refine fn_enterW (args := [.pointer (some ⟨r, 0, none⟩), .int .i64 p, .int .i64 m]) Try.func106 rfl Try.ntmps106 (by simp) ?_; refine sr ?_; refine tla ?_; refine tla ?_; refine nq ?_; refine tc_seq ?_; refine sr ?_; refine tlm ?_; refine tv (o_nilCheck rfl) ?_; refine tv (o_fieldAddr (o := 5) Try.underlying91 rfl rfl sz4 rfl) ?_; refine tv (o_ldP (a := some ⟨r, 0, none⟩) (i := 5) p4 rfl (by repeat (first | exact hR.d | apply Rs.left)) rfl) ?_; refine nq ?_; refine tc_cond rfl (fun h => ?_) (fun h => ?_)
  · try simp only [lv1, lv2, lv3, lv4, lv5, lv6, Bool.not_true, Bool.not_false] at h
    refine sr ?_; refine tla ?_; refine tla ?_; refine nq ?_; refine tc_ret ?_; refine q_then_r ?_
    have e : rdy s.ls.length s.off p m = 5 := by unfold rdy; rw [if_pos h]
    rw [e]
    exact ⟨.tuple #[.slice none 0 0, .int .i64 5], A, res2 rfl rfl rfl, Dr.sat (by repeat (first | with_reducible exact dr_refl | apply dr_keep | apply dr_drop)), rfl, rfl⟩
  · have hoff : s.off = false := by simpa using h
    have e5 : rdy s.ls.length s.off p m = rdy s.ls.length false p m := by rw [hoff]
    rw [e5] at hno ⊢
    refine tc_skip ?_; refine q_then_n ?_; refine tc_seq ?_; refine sr ?_; refine tlm ?_; refine tlm ?_; refine tlm ?_; refine tl_c rfl (o_call bd136 rfl (rinside_f _ hR hp hm)) ?_; rintro _ _ ⟨rfl, rfl⟩; refine tv (o_not rfl) ?_; refine nq ?_; refine tc_cond rfl (fun h => ?_) (fun h => ?_)
    · try simp only [lv1, lv2, lv3, lv4, lv5, lv6, Bool.not_true, Bool.not_false] at h
      refine sr ?_; refine tla ?_; refine tla ?_; refine nq ?_; refine tc_ret ?_; refine q_then_r ?_
      have e : rdy s.ls.length false p m = 6 := by unfold rdy at hno ⊢; simp at hno ⊢; exact hno
      rw [e]
      exact ⟨.tuple #[.slice none 0 0, .int .i64 6], A, res2 rfl rfl rfl, Dr.sat (by repeat (first | with_reducible exact dr_refl | apply dr_keep | apply dr_drop)), rfl, rfl⟩
    · exfalso; simp at h; exact hno h
theorem rFromNo_c {F : SP} {a : Option Addr} {c m : Nat} (hno : fitsB (m : Int) = false := by assumption) :
    Fn Try.prog 65 #[.slice a m c] (F) (fun v B => v = .tuple #[.pointer none, .int .i64 80] ∧ F = B) := by
  refine fn_enterW (args := [.slice a m c]) Try.func65 rfl Try.ntmps65 (by simp) ?_; refine sr ?_; refine tla ?_; refine tla ?_; refine nq ?_; refine tc_seq ?_; refine sr ?_; refine tlm ?_; refine tv (o_len Try.underlying28 rfl) ?_; refine tl_c rfl (o_call bd125 rfl (rfits_c (p := (m : Nat)))) ?_; rintro _ _ ⟨rfl, rfl⟩; refine tv (o_not rfl) ?_; refine nq ?_; refine tc_cond rfl (fun h => ?_) (fun h => ?_)
  · try simp only [lv1, lv2, lv3, lv4, lv5, lv6, Bool.not_true, Bool.not_false] at h
    refine sr ?_; refine tla ?_; refine tla ?_; refine nq ?_; refine tc_ret ?_; refine q_then_r ?_; refine ⟨.tuple #[.pointer none, .int .i64 80], _, res2 rfl rfl rfl, ?_, rfl, rfl⟩; exact Dr.sat (by repeat (first | with_reducible exact dr_refl | apply dr_keep | apply dr_drop))
  · exfalso; simp [hno] at h
theorem rNewNo_c {F : SP} {p : Int} (hno : fitsB p = false := by assumption) :
    Fn Try.prog 103 #[.int .i64 p] (F) (fun v B => v = .tuple #[.pointer none, .int .i64 80] ∧ F = B) := by
  refine fn_enterW (args := [.int .i64 p]) Try.func103 rfl Try.ntmps103 (by simp) ?_; refine sr ?_; refine tla ?_; refine tla ?_; refine nq ?_; refine tc_seq ?_; refine sr ?_; refine tlm ?_; refine tl_c rfl (o_call bd125 rfl (rfits_c (p := p))) ?_; rintro _ _ ⟨rfl, rfl⟩; refine tv (o_not rfl) ?_; refine nq ?_; refine tc_cond rfl (fun h => ?_) (fun h => ?_)
  · try simp only [lv1, lv2, lv3, lv4, lv5, lv6, Bool.not_true, Bool.not_false] at h
    refine sr ?_; refine tla ?_; refine tla ?_; refine nq ?_; refine tc_ret ?_; refine q_then_r ?_; refine ⟨.tuple #[.pointer none, .int .i64 80], _, res2 rfl rfl rfl, ?_, rfl, rfl⟩; exact Dr.sat (by repeat (first | with_reducible exact dr_refl | apply dr_keep | apply dr_drop))
  · exfalso; simp [hno] at h
set_option maxRecDepth 20000 in
set_option maxHeartbeats 1000000 in
theorem rFrom_c {F : SP} {a : Option Addr} {c m : Nat} {xs : List Nat} (n : Nat) (hr : Rs F a (bys xs) := by repeat (first | assumption | with_reducible exact rs_sl | with_reducible exact rs_pt0 | exact rs_none | apply Rs.left)) (hx : xs.length = m := by first | assumption | rfl) (hm : m = n * 64 := by omega) (hmc : m ≤ c := by omega) (hb : ∀ x ∈ xs, x < 256 := by assumption) (hn : 0 < n := by omega) (hn2 : n ≤ 65536 := by omega) :
    Fn Try.prog 65 #[.slice a m c] (F) (fun v B => ∃ d, v = .tuple #[.pointer (some ⟨d, 0, none⟩), .int .i64 0] ∧ B = F * RDev d (fromS n xs)) := by
  refine fn_enterW (args := [.slice a m c]) Try.func65 rfl Try.ntmps65 (by simp) ?_
  have hfit : fitsB (m : Int) = true := by unfold fitsB; simp; omega
  refine sr ?_; refine tla ?_; refine tla ?_; refine nq ?_; refine tc_seq ?_; refine sr ?_; refine tlm ?_; refine tv (o_len Try.underlying28 rfl) ?_; refine tl_c rfl (o_call bd125 rfl (rfits_c (p := (m : Nat)))) ?_; rintro _ _ ⟨rfl, rfl⟩; refine tv (o_not rfl) ?_; refine nq ?_; refine tc_cond rfl (fun h => ?_) (fun h => ?_)
  · exfalso; rw [hfit] at h; exact absurd h (by decide)
  · try simp only [lv1, lv2, lv3, lv4, lv5, lv6, Bool.not_true, Bool.not_false] at h
    refine tc_skip ?_; refine q_then_n ?_; refine sr ?_; refine tlm ?_; refine tv (o_len Try.underlying28 rfl) ?_; refine tv (o_bS (l := [.int .i64 (m : Nat), .slice none 0 0, .int .i64 0, .slice none 0 0, .int .i64 0, .bool false]) (pv_cons (by conv => lhs; whnf) pv_nil) Try.underlying91 z91 (pl91 Try.underlying91) rfl) ?_; refine tl_x rfl (o_box rfl rfl) ?_; rintro _ _ ⟨b13, rfl, rfl⟩; refine tl_pre (A' := F * Bs rlR [] * pt b13 (cl ([.int .i64 ((n * 64 : Nat) : Int), .slice none 0 0, .int .i64 0, .slice none 0 0, .int .i64 0, .bool false]) 91) * Sl 2 (.slice none 0 0) 0 []) (fun _ _ h => sl_nil (by rw [bs_nil, star_emp, ← hm]; exact h)) ?_; refine tla ?_; refine nq ?_; refine tc_seq ?_; refine sr ?_; refine tla ?_; refine nq ?_; refine tc_block ?_; refine tc_loop (fun kk ρ BB => ∃ (i : Nat) (aL : Option Addr) (cL : Nat) (rls1 : List RL), (i ≤ n) ∧ (rls1.map RL.l = (fromS n xs).ls.take i) ∧ kk = n - i ∧ ρ 5 = .int .i64 ((i * 64 : Nat) : Int) ∧ ρ 0 = .slice a m c ∧ ρ 4 = .pointer (some ⟨b13, 0, none⟩) ∧ BB = F * Bs rlR rls1 * pt b13 (cl ([.int .i64 ((n * 64 : Nat) : Int), .slice aL i cL, .int .i64 0, .slice none 0 0, .int .i64 0, .bool false]) 91) * Sl 2 (.slice aL i cL) i (rls1.flatMap rcl)) (m := n - (0)) ?_ ?_
    · exact ⟨0, none, 0, [], by omega, rfl, rfl, rfl, rfl, rfl, rfl⟩
    · intro k ρ B hI
      obtain ⟨i, aL, cL, rls1, hp0, hp1, hkk1, hE5, hE0, hE4, rfl⟩ := hI
      refine tc_env (d := 5) hE5 ?_; refine tc_env (d := 0) hE0 ?_; refine tc_env (d := 4) hE4 ?_
      clear hE5 hE0 hE4
      refine tc_seq ?_; refine sr ?_; refine tlm ?_; refine tlm ?_; refine tv (o_len Try.underlying28 rfl) ?_; refine tv (o_lss rfl rfl) ?_; refine nq ?_; refine tc_cond rfl (fun h => ?_) (fun h => ?_)
      · have hi : i < n := by simp at h; omega
        have hrl : rls1.length = i := by have := congrArg List.length hp1; rw [List.length_map, List.length_take, fromS_len] at this; omega
        have hxl : ((xs.drop (i * 64)).take 64).length = 64 := by rw [List.length_take, List.length_drop]; omega
        have hlf := lineF_lb hb (show i * 64 + 64 ≤ xs.length by omega)
        refine tc_skip ?_; refine q_then_n ?_; refine tc_seq ?_; refine tc_block ?_; refine tc_regh (S := F * Bs rlR rls1) mo (by repeat (first | with_reducible exact dr_refl | apply dr_keep | apply dr_drop)) ?_
        show TH _ _ _ _ _ 18 #[ff,ff,ff,ff,ff,ff,ff,ff,ff,ff,ff,ff,ff,ff,ff,ff,ff,ff] _ _
        refine th_take (i := 0) (listed' := #[tt,ff,ff,ff,ff,ff,ff,ff,ff,ff,ff,ff,ff,ff,ff,ff,ff,ff]) rfl (by kernel_rfl) (by kernel_rfl) (by kernel_rfl) rfl rfl (o_move (by conv => lhs; whnf)) ?_; refine th_take (i := 1) (listed' := #[tt,tt,ff,ff,ff,ff,ff,ff,ff,ff,ff,ff,ff,ff,ff,ff,ff,ff]) rfl (by kernel_rfl) (by kernel_rfl) (by kernel_rfl) rfl rfl (o_move (by conv => lhs; whnf)) ?_; refine th_take (i := 2) (listed' := #[tt,tt,tt,ff,ff,ff,ff,ff,ff,ff,ff,ff,ff,ff,ff,ff,ff,ff]) rfl (by kernel_rfl) (by kernel_rfl) (by kernel_rfl) rfl rfl (o_nilCheck rfl) ?_; refine th_take (i := 3) (listed' := #[tt,tt,tt,tt,ff,ff,ff,ff,ff,ff,ff,ff,ff,ff,ff,ff,ff,ff]) rfl (by kernel_rfl) (by kernel_rfl) (by kernel_rfl) rfl rfl (o_fieldAddr (o := 1) Try.underlying91 rfl rfl sz89 rfl) ?_; refine th_take (i := 5) (listed' := #[tt,tt,tt,tt,ff,tt,ff,ff,ff,ff,ff,ff,ff,ff,ff,ff,ff,ff]) rfl (by kernel_rfl) (by kernel_rfl) (by kernel_rfl) rfl rfl (o_move (by conv => lhs; whnf)) ?_; refine th_take (i := 6) (listed' := #[tt,tt,tt,tt,ff,tt,tt,ff,ff,ff,ff,ff,ff,ff,ff,ff,ff,ff]) rfl (by kernel_rfl) (by kernel_rfl) (by kernel_rfl) rfl rfl (o_move (by conv => lhs; whnf)) ?_; refine th_take (i := 7) (listed' := #[tt,tt,tt,tt,ff,tt,tt,tt,ff,ff,ff,ff,ff,ff,ff,ff,ff,ff]) rfl (by kernel_rfl) (by kernel_rfl) (by kernel_rfl) rfl rfl (o_move (by conv => lhs; whnf)) ?_; refine th_take (i := 8) (listed' := #[tt,tt,tt,tt,ff,tt,tt,tt,tt,ff,ff,ff,ff,ff,ff,ff,ff,ff]) rfl (by kernel_rfl) (by kernel_rfl) (by kernel_rfl) rfl rfl (o_addI rfl rfl (by omega)) ?_
        refine th_env (d := 28) (v := .int .i64 ((i * 64 + 64 : Nat) : Int)) (rfl) ?_; refine th_take (i := 9) (listed' := #[tt,tt,tt,tt,ff,tt,tt,tt,tt,tt,ff,ff,ff,ff,ff,ff,ff,ff]) rfl (by kernel_rfl) (by kernel_rfl) (by kernel_rfl) rfl rfl (o_slice (l := i * 64) (h := i * 64 + 64) Try.underlying28 sz5 rfl (bnd_nat rfl) (bnd_nat rfl) (by omega) (by omega)) ?_; refine th_env (d := 29) (v := .slice (cutAddr a c (i * 64) 1) 64 (c - i * 64)) (by show Value.slice _ (i * 64 + 64 - i * 64) _ = _; rw [Nat.add_sub_cancel_left]) ?_; refine th_two (i := 4) (j := 10) (by kernel_rfl) ?_ ?_
        · skip
          refine oh_v (i := 4) (listed' := #[tt,tt,tt,tt,tt,tt,tt,tt,tt,tt,ff,ff,ff,ff,ff,ff,ff,ff]) rfl rfl rfl (o_load p89 rfl (by repeat (first | with_reducible exact has_here | with_reducible exact has_pt | apply has_left)) rfl) ?_; refine th_one (i := 10) (by kernel_rfl) ?_; refine oh_c (i := 10) (listed' := #[tt,tt,tt,tt,tt,tt,tt,tt,tt,tt,tt,ff,ff,ff,ff,ff,ff,ff]) rfl rfl rfl (o_call bd39 rfl (CopyBytes_c (xs := (xs.drop (i * 64)).take 64) (hr := (by repeat (first | exact rs_mid hr (by omega) | apply Rs.left))) (hm := hxl))) ?_; rintro _ _ ⟨a30, c30, rfl, hc30, rfl⟩; refine ⟨by repeat (first | with_reducible exact dr_refl | apply dr_keep | apply dr_drop), ?_⟩; refine th_one (i := 11) (by kernel_rfl) ?_; refine oh_x (i := 11) (listed' := #[tt,tt,tt,tt,tt,tt,tt,tt,tt,tt,tt,tt,ff,ff,ff,ff,ff,ff]) rfl rfl rfl (o_buildSlice1 Try.underlying33 sz28 z28 rfl rfl) ?_; rintro _ _ ⟨b31, rfl, rfl⟩; refine ⟨by repeat (first | with_reducible exact dr_refl | apply dr_keep | apply dr_drop), ?_⟩; refine th_take (i := 12) (listed' := #[tt,tt,tt,tt,tt,tt,tt,tt,tt,tt,tt,tt,tt,ff,ff,ff,ff,ff]) rfl (by kernel_rfl) (by kernel_rfl) (by kernel_rfl) rfl rfl (o_bS (l := [_, _]) (pv_cons (by conv => lhs; whnf) (pv_cons (by conv => lhs; whnf) pv_nil)) Try.underlying176 z176 (pl176 Try.underlying176) rfl) ?_; refine th_one (i := 13) (by kernel_rfl) ?_; refine oh_x (i := 13) (listed' := #[tt,tt,tt,tt,tt,tt,tt,tt,tt,tt,tt,tt,tt,tt,ff,ff,ff,ff]) rfl rfl rfl (o_buildSliceK (k := 2) (l := [.slice (some ⟨b31, 0, none⟩) 1 1, .int .i64 (-1)]) Try.underlying89 sz176 z176 rfl rfl (by decide)) ?_
          rintro _ _ ⟨b33, rfl, rfl⟩; refine ⟨by repeat (first | with_reducible exact dr_refl | apply dr_keep | apply dr_drop), ?_⟩; refine th_one (i := 14) (by kernel_rfl) ?_; refine oh_x (i := 14) (listed' := #[tt,tt,tt,tt,tt,tt,tt,tt,tt,tt,tt,tt,tt,tt,tt,ff,ff,ff]) rfl rfl rfl (o_apB Try.underlying89 Try.underlying89 sz176 by176 z176 rfl (by decide) (by decide) rfl rfl rfl (by repeat (first | with_reducible exact ct_here | apply ct_left)) rfl rfl (by omega) (fm_sn rls1 ((⟨.slice (some ⟨b31, 0, none⟩) 1 1, [(.slice a30 64 c30, seenL (lineF xs i))], -1⟩ : RL)))) ?_; rintro _ _ ⟨a34, c34, rfl, hc34, rfl⟩; refine ⟨by repeat (first | with_reducible exact dr_refl | apply dr_keep | apply dr_drop), ?_⟩; refine th_take (i := 15) (listed' := #[tt,tt,tt,tt,tt,tt,tt,tt,tt,tt,tt,tt,tt,tt,tt,tt,ff,ff]) rfl (by kernel_rfl) (by kernel_rfl) (by kernel_rfl) rfl rfl (o_nilCheck rfl) ?_; refine th_take (i := 16) (listed' := #[tt,tt,tt,tt,tt,tt,tt,tt,tt,tt,tt,tt,tt,tt,tt,tt,tt,ff]) rfl (by kernel_rfl) (by kernel_rfl) (by kernel_rfl) rfl rfl (o_fieldAddr (o := 1) Try.underlying91 rfl rfl sz89 rfl) ?_; refine th_one (i := 17) (by kernel_rfl) ?_; refine oh_u (i := 17) (listed' := #[tt,tt,tt,tt,tt,tt,tt,tt,tt,tt,tt,tt,tt,tt,tt,tt,tt,tt]) rfl rfl rfl (o_stU (l' := [.int .i64 ((n * 64 : Nat) : Int), .slice a34 (i + 1) c34, .int .i64 0, .slice none 0 0, .int .i64 0, .bool false]) rfl (by repeat (first | with_reducible exact upd_here | with_reducible exact upd_pt | apply upd_left)) sz89 rfl rfl (by show 1 < 6; decide) rfl) (by repeat (first | with_reducible exact dr_refl | apply dr_keep | apply dr_drop)) ?_
          refine th_done (by kernel_rfl) ?_; refine q_block_n (q_then_n ?_)
          have hnext : (rls1 ++ [(⟨.slice (some ⟨b31, 0, none⟩) 1 1, [(.slice a30 64 c30, seenL (lineF xs i))], -1⟩ : RL)]).map RL.l = (fromS n xs).ls.take (i + 1) := by
            rw [List.map_append, hp1, List.take_succ_eq_append_getElem (by rw [fromS_len]; exact hi), fromS_at xs hi]; rfl
          refine tc_pre (A' := F * Bs rlR (rls1 ++ [(⟨.slice (some ⟨b31, 0, none⟩) 1 1, [(.slice a30 64 c30, seenL (lineF xs i))], -1⟩ : RL)]) * pt b13 (cl ([.int .i64 ((n * 64 : Nat) : Int), .slice a34 (i + 1) c34, .int .i64 0, .slice none 0 0, .int .i64 0, .bool false]) 91) * Sl 2 (.slice a34 (i + 1) c34) (i + 1) ((rls1 ++ [(⟨.slice (some ⟨b31, 0, none⟩) 1 1, [(.slice a30 64 c30, seenL (lineF xs i))], -1⟩ : RL)]).flatMap rcl)) (fun _ _ h => ?_) ?_
          · have e : rlR (⟨.slice (some ⟨b31, 0, none⟩) 1 1, [(.slice a30 64 c30, seenL (lineF xs i))], -1⟩ : RL) = Sl 1 (.slice (some ⟨b31, 0, none⟩) 1 1) 1 [.slice a30 64 c30] * SlR 1 (.slice a30 64 c30) 64 (bys ((xs.drop (i * 64)).take 64)) := by
              show Sl 1 _ 1 [_] * Bs rowR [_] = _
              rw [bs_cons, bs_nil, emp_star]
              show _ * SlR 1 _ 64 (bys (lb (seenL (lineF xs i)))) = _
              rw [hlf]
            rw [bs_snoc, e]
            have h1 := sl_share (h.perm (show _ = F * Bs rlR rls1 * pt b13 (cl ([.int .i64 ((n * 64 : Nat) : Int), .slice a34 (i + 1) c34, .int .i64 0, .slice none 0 0, .int .i64 0, .bool false]) 91) * Sl 2 (.slice a34 (i + 1) c34) (i + 1) ((rls1 ++ [(⟨.slice (some ⟨b31, 0, none⟩) 1 1, [(.slice a30 64 c30, seenL (lineF xs i))], -1⟩ : RL)]).flatMap rcl) * pt b31 (cl [.slice a30 64 c30] 28) * Sl 1 (.slice a30 64 c30) 64 (bys ((xs.drop (i * 64)).take 64)) by ac_rfl))
            have h2 := sl_new (k := 1) (n := 1) (cap := 1) (xs := [.slice a30 64 c30]) (h1.perm (star_swap _ _ _)) (by decide) (Nat.le_refl _) rfl
            exact h2.perm (by ac_rfl)
          refine tc_reg ?_; refine tlm ?_; refine tv (by first | exact o_addI rfl rfl (by omega) | exact o_add rfl rfl) ?_; refine tl_env (d := 19) (v := .int .i64 (((i + 1) * 64 : Nat) : Int)) (by show Value.int .i64 _ = _; congr 1; omega) ?_; refine tla ?_; refine nq ?_; exact ⟨_, by omega, i + 1, a34, c34, rls1 ++ [(⟨.slice (some ⟨b31, 0, none⟩) 1 1, [(.slice a30 64 c30, seenL (lineF xs i))], -1⟩ : RL)], by omega, hnext, rfl, rfl, rfl, rfl, rfl⟩
        · skip
          refine oh_c (i := 10) (listed' := #[tt,tt,tt,tt,ff,tt,tt,tt,tt,tt,tt,ff,ff,ff,ff,ff,ff,ff]) rfl rfl rfl (o_call bd39 rfl (CopyBytes_c (xs := (xs.drop (i * 64)).take 64) (hr := (by repeat (first | exact rs_mid hr (by omega) | apply Rs.left))) (hm := hxl))) ?_; rintro _ _ ⟨a30, c30, rfl, hc30, rfl⟩; refine ⟨by repeat (first | with_reducible exact dr_refl | apply dr_keep | apply dr_drop), ?_⟩; refine th_two (i := 4) (j := 11) (by kernel_rfl) ?_ ?_
          · skip
            refine oh_v (i := 4) (listed' := #[tt,tt,tt,tt,tt,tt,tt,tt,tt,tt,tt,ff,ff,ff,ff,ff,ff,ff]) rfl rfl rfl (o_load p89 rfl (by repeat (first | with_reducible exact has_here | with_reducible exact has_pt | apply has_left)) rfl) ?_; refine th_one (i := 11) (by kernel_rfl) ?_; refine oh_x (i := 11) (listed' := #[tt,tt,tt,tt,tt,tt,tt,tt,tt,tt,tt,tt,ff,ff,ff,ff,ff,ff]) rfl rfl rfl (o_buildSlice1 Try.underlying33 sz28 z28 rfl rfl) ?_; rintro _ _ ⟨b31, rfl, rfl⟩; refine ⟨by repeat (first | with_reducible exact dr_refl | apply dr_keep | apply dr_drop), ?_⟩; refine th_take (i := 12) (listed' := #[tt,tt,tt,tt,tt,tt,tt,tt,tt,tt,tt,tt,tt,ff,ff,ff,ff,ff]) rfl (by kernel_rfl) (by kernel_rfl) (by kernel_rfl) rfl rfl (o_bS (l := [_, _]) (pv_cons (by conv => lhs; whnf) (pv_cons (by conv => lhs; whnf) pv_nil)) Try.underlying176 z176 (pl176 Try.underlying176) rfl) ?_; refine th_one (i := 13) (by kernel_rfl) ?_; refine oh_x (i := 13) (listed' := #[tt,tt,tt,tt,tt,tt,tt,tt,tt,tt,tt,tt,tt,tt,ff,ff,ff,ff]) rfl rfl rfl (o_buildSliceK (k := 2) (l := [.slice (some ⟨b31, 0, none⟩) 1 1, .int .i64 (-1)]) Try.underlying89 sz176 z176 rfl rfl (by decide)) ?_; rintro _ _ ⟨b33, rfl, rfl⟩; refine ⟨by repeat (first | with_reducible exact dr_refl | apply dr_keep | apply dr_drop), ?_⟩; refine th_one (i := 14) (by kernel_rfl) ?_; refine oh_x (i := 14) (listed' := #[tt,tt,tt,tt,tt,tt,tt,tt,tt,tt,tt,tt,tt,tt,tt,ff,ff,ff]) rfl rfl rfl (o_apB Try.underlying89 Try.underlying89 sz176 by176 z176 rfl (by decide) (by decide) rfl rfl rfl (by repeat (first | with_reducible exact ct_here | apply ct_left)) rfl rfl (by omega) (fm_sn rls1 ((⟨.slice (some ⟨b31, 0, none⟩) 1 1, [(.slice a30 64 c30, seenL (lineF xs i))], -1⟩ : RL)))) ?_
            rintro _ _ ⟨a34, c34, rfl, hc34, rfl⟩; refine ⟨by repeat (first | with_reducible exact dr_refl | apply dr_keep | apply dr_drop), ?_⟩; refine th_take (i := 15) (listed' := #[tt,tt,tt,tt,tt,tt,tt,tt,tt,tt,tt,tt,tt,tt,tt,tt,ff,ff]) rfl (by kernel_rfl) (by kernel_rfl) (by kernel_rfl) rfl rfl (o_nilCheck rfl) ?_; refine th_take (i := 16) (listed' := #[tt,tt,tt,tt,tt,tt,tt,tt,tt,tt,tt,tt,tt,tt,tt,tt,tt,ff]) rfl (by kernel_rfl) (by kernel_rfl) (by kernel_rfl) rfl rfl (o_fieldAddr (o := 1) Try.underlying91 rfl rfl sz89 rfl) ?_; refine th_one (i := 17) (by kernel_rfl) ?_; refine oh_u (i := 17) (listed' := #[tt,tt,tt,tt,tt,tt,tt,tt,tt,tt,tt,tt,tt,tt,tt,tt,tt,tt]) rfl rfl rfl (o_stU (l' := [.int .i64 ((n * 64 : Nat) : Int), .slice a34 (i + 1) c34, .int .i64 0, .slice none 0 0, .int .i64 0, .bool false]) rfl (by repeat (first | with_reducible exact upd_here | with_reducible exact upd_pt | apply upd_left)) sz89 rfl rfl (by show 1 < 6; decide) rfl) (by repeat (first | with_reducible exact dr_refl | apply dr_keep | apply dr_drop)) ?_; refine th_done (by kernel_rfl) ?_; refine q_block_n (q_then_n ?_)
            have hnext : (rls1 ++ [(⟨.slice (some ⟨b31, 0, none⟩) 1 1, [(.slice a30 64 c30, seenL (lineF xs i))], -1⟩ : RL)]).map RL.l = (fromS n xs).ls.take (i + 1) := by
              rw [List.map_append, hp1, List.take_succ_eq_append_getElem (by rw [fromS_len]; exact hi), fromS_at xs hi]; rfl
            refine tc_pre (A' := F * Bs rlR (rls1 ++ [(⟨.slice (some ⟨b31, 0, none⟩) 1 1, [(.slice a30 64 c30, seenL (lineF xs i))], -1⟩ : RL)]) * pt b13 (cl ([.int .i64 ((n * 64 : Nat) : Int), .slice a34 (i + 1) c34, .int .i64 0, .slice none 0 0, .int .i64 0, .bool false]) 91) * Sl 2 (.slice a34 (i + 1) c34) (i + 1) ((rls1 ++ [(⟨.slice (some ⟨b31, 0, none⟩) 1 1, [(.slice a30 64 c30, seenL (lineF xs i))], -1⟩ : RL)]).flatMap rcl)) (fun _ _ h => ?_) ?_
            · have e : rlR (⟨.slice (some ⟨b31, 0, none⟩) 1 1, [(.slice a30 64 c30, seenL (lineF xs i))], -1⟩ : RL) = Sl 1 (.slice (some ⟨b31, 0, none⟩) 1 1) 1 [.slice a30 64 c30] * SlR 1 (.slice a30 64 c30) 64 (bys ((xs.drop (i * 64)).take 64)) := by
                show Sl 1 _ 1 [_] * Bs rowR [_] = _
                rw [bs_cons, bs_nil, emp_star]
                show _ * SlR 1 _ 64 (bys (lb (seenL (lineF xs i)))) = _
                rw [hlf]
              rw [bs_snoc, e]
              have h1 := sl_share (h.perm (show _ = F * Bs rlR rls1 * pt b13 (cl ([.int .i64 ((n * 64 : Nat) : Int), .slice a34 (i + 1) c34, .int .i64 0, .slice none 0 0, .int .i64 0, .bool false]) 91) * Sl 2 (.slice a34 (i + 1) c34) (i + 1) ((rls1 ++ [(⟨.slice (some ⟨b31, 0, none⟩) 1 1, [(.slice a30 64 c30, seenL (lineF xs i))], -1⟩ : RL)]).flatMap rcl) * pt b31 (cl [.slice a30 64 c30] 28) * Sl 1 (.slice a30 64 c30) 64 (bys ((xs.drop (i * 64)).take 64)) by ac_rfl))
              have h2 := sl_new (k := 1) (n := 1) (cap := 1) (xs := [.slice a30 64 c30]) (h1.perm (star_swap _ _ _)) (by decide) (Nat.le_refl _) rfl
              exact h2.perm (by ac_rfl)
            refine tc_reg ?_; refine tlm ?_; refine tv (by first | exact o_addI rfl rfl (by omega) | exact o_add rfl rfl) ?_; refine tl_env (d := 19) (v := .int .i64 (((i + 1) * 64 : Nat) : Int)) (by show Value.int .i64 _ = _; congr 1; omega) ?_; refine tla ?_; refine nq ?_; exact ⟨_, by omega, i + 1, a34, c34, rls1 ++ [(⟨.slice (some ⟨b31, 0, none⟩) 1 1, [(.slice a30 64 c30, seenL (lineF xs i))], -1⟩ : RL)], by omega, hnext, rfl, rfl, rfl, rfl, rfl⟩
          · skip
            refine oh_x (i := 11) (listed' := #[tt,tt,tt,tt,ff,tt,tt,tt,tt,tt,tt,tt,ff,ff,ff,ff,ff,ff]) rfl rfl rfl (o_buildSlice1 Try.underlying33 sz28 z28 rfl rfl) ?_; rintro _ _ ⟨b31, rfl, rfl⟩; refine ⟨by repeat (first | with_reducible exact dr_refl | apply dr_keep | apply dr_drop), ?_⟩; refine th_take (i := 12) (listed' := #[tt,tt,tt,tt,ff,tt,tt,tt,tt,tt,tt,tt,tt,ff,ff,ff,ff,ff]) rfl (by kernel_rfl) (by kernel_rfl) (by kernel_rfl) rfl rfl (o_bS (l := [_, _]) (pv_cons (by conv => lhs; whnf) (pv_cons (by conv => lhs; whnf) pv_nil)) Try.underlying176 z176 (pl176 Try.underlying176) rfl) ?_; refine th_two (i := 4) (j := 13) (by kernel_rfl) ?_ ?_
            · skip
              refine oh_v (i := 4) (listed' := #[tt,tt,tt,tt,tt,tt,tt,tt,tt,tt,tt,tt,tt,ff,ff,ff,ff,ff]) rfl rfl rfl (o_load p89 rfl (by repeat (first | with_reducible exact has_here | with_reducible exact has_pt | apply has_left)) rfl) ?_; refine th_one (i := 13) (by kernel_rfl) ?_; refine oh_x (i := 13) (listed' := #[tt,tt,tt,tt,tt,tt,tt,tt,tt,tt,tt,tt,tt,tt,ff,ff,ff,ff]) rfl rfl rfl (o_buildSliceK (k := 2) (l := [.slice (some ⟨b31, 0, none⟩) 1 1, .int .i64 (-1)]) Try.underlying89 sz176 z176 rfl rfl (by decide)) ?_; rintro _ _ ⟨b33, rfl, rfl⟩; refine ⟨by repeat (first | with_reducible exact dr_refl | apply dr_keep | apply dr_drop), ?_⟩; refine th_one (i := 14) (by kernel_rfl) ?_; refine oh_x (i := 14) (listed' := #[tt,tt,tt,tt,tt,tt,tt,tt,tt,tt,tt,tt,tt,tt,tt,ff,ff,ff]) rfl rfl rfl (o_apB Try.underlying89 Try.underlying89 sz176 by176 z176 rfl (by decide) (by decide) rfl rfl rfl (by repeat (first | with_reducible exact ct_here | apply ct_left)) rfl rfl (by omega) (fm_sn rls1 ((⟨.slice (some ⟨b31, 0, none⟩) 1 1, [(.slice a30 64 c30, seenL (lineF xs i))], -1⟩ : RL)))) ?_; rintro _ _ ⟨a34, c34, rfl, hc34, rfl⟩; refine ⟨by repeat (first | with_reducible exact dr_refl | apply dr_keep | apply dr_drop), ?_⟩; refine th_take (i := 15) (listed' := #[tt,tt,tt,tt,tt,tt,tt,tt,tt,tt,tt,tt,tt,tt,tt,tt,ff,ff]) rfl (by kernel_rfl) (by kernel_rfl) (by kernel_rfl) rfl rfl (o_nilCheck rfl) ?_
              refine th_take (i := 16) (listed' := #[tt,tt,tt,tt,tt,tt,tt,tt,tt,tt,tt,tt,tt,tt,tt,tt,tt,ff]) rfl (by kernel_rfl) (by kernel_rfl) (by kernel_rfl) rfl rfl (o_fieldAddr (o := 1) Try.underlying91 rfl rfl sz89 rfl) ?_; refine th_one (i := 17) (by kernel_rfl) ?_; refine oh_u (i := 17) (listed' := #[tt,tt,tt,tt,tt,tt,tt,tt,tt,tt,tt,tt,tt,tt,tt,tt,tt,tt]) rfl rfl rfl (o_stU (l' := [.int .i64 ((n * 64 : Nat) : Int), .slice a34 (i + 1) c34, .int .i64 0, .slice none 0 0, .int .i64 0, .bool false]) rfl (by repeat (first | with_reducible exact upd_here | with_reducible exact upd_pt | apply upd_left)) sz89 rfl rfl (by show 1 < 6; decide) rfl) (by repeat (first | with_reducible exact dr_refl | apply dr_keep | apply dr_drop)) ?_; refine th_done (by kernel_rfl) ?_; refine q_block_n (q_then_n ?_)
              have hnext : (rls1 ++ [(⟨.slice (some ⟨b31, 0, none⟩) 1 1, [(.slice a30 64 c30, seenL (lineF xs i))], -1⟩ : RL)]).map RL.l = (fromS n xs).ls.take (i + 1) := by
                rw [List.map_append, hp1, List.take_succ_eq_append_getElem (by rw [fromS_len]; exact hi), fromS_at xs hi]; rfl
              refine tc_pre (A' := F * Bs rlR (rls1 ++ [(⟨.slice (some ⟨b31, 0, none⟩) 1 1, [(.slice a30 64 c30, seenL (lineF xs i))], -1⟩ : RL)]) * pt b13 (cl ([.int .i64 ((n * 64 : Nat) : Int), .slice a34 (i + 1) c34, .int .i64 0, .slice none 0 0, .int .i64 0, .bool false]) 91) * Sl 2 (.slice a34 (i + 1) c34) (i + 1) ((rls1 ++ [(⟨.slice (some ⟨b31, 0, none⟩) 1 1, [(.slice a30 64 c30, seenL (lineF xs i))], -1⟩ : RL)]).flatMap rcl)) (fun _ _ h => ?_) ?_
              · have e : rlR (⟨.slice (some ⟨b31, 0, none⟩) 1 1, [(.slice a30 64 c30, seenL (lineF xs i))], -1⟩ : RL) = Sl 1 (.slice (some ⟨b31, 0, none⟩) 1 1) 1 [.slice a30 64 c30] * SlR 1 (.slice a30 64 c30) 64 (bys ((xs.drop (i * 64)).take 64)) := by
                  show Sl 1 _ 1 [_] * Bs rowR [_] = _
                  rw [bs_cons, bs_nil, emp_star]
                  show _ * SlR 1 _ 64 (bys (lb (seenL (lineF xs i)))) = _
                  rw [hlf]
                rw [bs_snoc, e]
                have h1 := sl_share (h.perm (show _ = F * Bs rlR rls1 * pt b13 (cl ([.int .i64 ((n * 64 : Nat) : Int), .slice a34 (i + 1) c34, .int .i64 0, .slice none 0 0, .int .i64 0, .bool false]) 91) * Sl 2 (.slice a34 (i + 1) c34) (i + 1) ((rls1 ++ [(⟨.slice (some ⟨b31, 0, none⟩) 1 1, [(.slice a30 64 c30, seenL (lineF xs i))], -1⟩ : RL)]).flatMap rcl) * pt b31 (cl [.slice a30 64 c30] 28) * Sl 1 (.slice a30 64 c30) 64 (bys ((xs.drop (i * 64)).take 64)) by ac_rfl))
                have h2 := sl_new (k := 1) (n := 1) (cap := 1) (xs := [.slice a30 64 c30]) (h1.perm (star_swap _ _ _)) (by decide) (Nat.le_refl _) rfl
                exact h2.perm (by ac_rfl)
              refine tc_reg ?_; refine tlm ?_; refine tv (by first | exact o_addI rfl rfl (by omega) | exact o_add rfl rfl) ?_; refine tl_env (d := 19) (v := .int .i64 (((i + 1) * 64 : Nat) : Int)) (by show Value.int .i64 _ = _; congr 1; omega) ?_; refine tla ?_; refine nq ?_; exact ⟨_, by omega, i + 1, a34, c34, rls1 ++ [(⟨.slice (some ⟨b31, 0, none⟩) 1 1, [(.slice a30 64 c30, seenL (lineF xs i))], -1⟩ : RL)], by omega, hnext, rfl, rfl, rfl, rfl, rfl⟩
            · skip
              refine oh_x (i := 13) (listed' := #[tt,tt,tt,tt,ff,tt,tt,tt,tt,tt,tt,tt,tt,tt,ff,ff,ff,ff]) rfl rfl rfl (o_buildSliceK (k := 2) (l := [.slice (some ⟨b31, 0, none⟩) 1 1, .int .i64 (-1)]) Try.underlying89 sz176 z176 rfl rfl (by decide)) ?_; rintro _ _ ⟨b33, rfl, rfl⟩; refine ⟨by repeat (first | with_reducible exact dr_refl | apply dr_keep | apply dr_drop), ?_⟩; refine th_one (i := 4) (by kernel_rfl) ?_; refine oh_v (i := 4) (listed' := #[tt,tt,tt,tt,tt,tt,tt,tt,tt,tt,tt,tt,tt,tt,ff,ff,ff,ff]) rfl rfl rfl (o_load p89 rfl (by repeat (first | with_reducible exact has_here | with_reducible exact has_pt | apply has_left)) rfl) ?_; refine th_one (i := 14) (by kernel_rfl) ?_; refine oh_x (i := 14) (listed' := #[tt,tt,tt,tt,tt,tt,tt,tt,tt,tt,tt,tt,tt,tt,tt,ff,ff,ff]) rfl rfl rfl (o_apB Try.underlying89 Try.underlying89 sz176 by176 z176 rfl (by decide) (by decide) rfl rfl rfl (by repeat (first | with_reducible exact ct_here | apply ct_left)) rfl rfl (by omega) (fm_sn rls1 ((⟨.slice (some ⟨b31, 0, none⟩) 1 1, [(.slice a30 64 c30, seenL (lineF xs i))], -1⟩ : RL)))) ?_; rintro _ _ ⟨a34, c34, rfl, hc34, rfl⟩; refine ⟨by repeat (first | with_reducible exact dr_refl | apply dr_keep | apply dr_drop), ?_⟩; refine th_take (i := 15) (listed' := #[tt,tt,tt,tt,tt,tt,tt,tt,tt,tt,tt,tt,tt,tt,tt,tt,ff,ff]) rfl (by kernel_rfl) (by kernel_rfl) (by kernel_rfl) rfl rfl (o_nilCheck rfl) ?_
              refine th_take (i := 16) (listed' := #[tt,tt,tt,tt,tt,tt,tt,tt,tt,tt,tt,tt,tt,tt,tt,tt,tt,ff]) rfl (by kernel_rfl) (by kernel_rfl) (by kernel_rfl) rfl rfl (o_fieldAddr (o := 1) Try.underlying91 rfl rfl sz89 rfl) ?_; refine th_one (i := 17) (by kernel_rfl) ?_; refine oh_u (i := 17) (listed' := #[tt,tt,tt,tt,tt,tt,tt,tt,tt,tt,tt,tt,tt,tt,tt,tt,tt,tt]) rfl rfl rfl (o_stU (l' := [.int .i64 ((n * 64 : Nat) : Int), .slice a34 (i + 1) c34, .int .i64 0, .slice none 0 0, .int .i64 0, .bool false]) rfl (by repeat (first | with_reducible exact upd_here | with_reducible exact upd_pt | apply upd_left)) sz89 rfl rfl (by show 1 < 6; decide) rfl) (by repeat (first | with_reducible exact dr_refl | apply dr_keep | apply dr_drop)) ?_; refine th_done (by kernel_rfl) ?_; refine q_block_n (q_then_n ?_)
              have hnext : (rls1 ++ [(⟨.slice (some ⟨b31, 0, none⟩) 1 1, [(.slice a30 64 c30, seenL (lineF xs i))], -1⟩ : RL)]).map RL.l = (fromS n xs).ls.take (i + 1) := by
                rw [List.map_append, hp1, List.take_succ_eq_append_getElem (by rw [fromS_len]; exact hi), fromS_at xs hi]; rfl
              refine tc_pre (A' := F * Bs rlR (rls1 ++ [(⟨.slice (some ⟨b31, 0, none⟩) 1 1, [(.slice a30 64 c30, seenL (lineF xs i))], -1⟩ : RL)]) * pt b13 (cl ([.int .i64 ((n * 64 : Nat) : Int), .slice a34 (i + 1) c34, .int .i64 0, .slice none 0 0, .int .i64 0, .bool false]) 91) * Sl 2 (.slice a34 (i + 1) c34) (i + 1) ((rls1 ++ [(⟨.slice (some ⟨b31, 0, none⟩) 1 1, [(.slice a30 64 c30, seenL (lineF xs i))], -1⟩ : RL)]).flatMap rcl)) (fun _ _ h => ?_) ?_
              · have e : rlR (⟨.slice (some ⟨b31, 0, none⟩) 1 1, [(.slice a30 64 c30, seenL (lineF xs i))], -1⟩ : RL) = Sl 1 (.slice (some ⟨b31, 0, none⟩) 1 1) 1 [.slice a30 64 c30] * SlR 1 (.slice a30 64 c30) 64 (bys ((xs.drop (i * 64)).take 64)) := by
                  show Sl 1 _ 1 [_] * Bs rowR [_] = _
                  rw [bs_cons, bs_nil, emp_star]
                  show _ * SlR 1 _ 64 (bys (lb (seenL (lineF xs i)))) = _
                  rw [hlf]
                rw [bs_snoc, e]
                have h1 := sl_share (h.perm (show _ = F * Bs rlR rls1 * pt b13 (cl ([.int .i64 ((n * 64 : Nat) : Int), .slice a34 (i + 1) c34, .int .i64 0, .slice none 0 0, .int .i64 0, .bool false]) 91) * Sl 2 (.slice a34 (i + 1) c34) (i + 1) ((rls1 ++ [(⟨.slice (some ⟨b31, 0, none⟩) 1 1, [(.slice a30 64 c30, seenL (lineF xs i))], -1⟩ : RL)]).flatMap rcl) * pt b31 (cl [.slice a30 64 c30] 28) * Sl 1 (.slice a30 64 c30) 64 (bys ((xs.drop (i * 64)).take 64)) by ac_rfl))
                have h2 := sl_new (k := 1) (n := 1) (cap := 1) (xs := [.slice a30 64 c30]) (h1.perm (star_swap _ _ _)) (by decide) (Nat.le_refl _) rfl
                exact h2.perm (by ac_rfl)
              refine tc_reg ?_; refine tlm ?_; refine tv (by first | exact o_addI rfl rfl (by omega) | exact o_add rfl rfl) ?_; refine tl_env (d := 19) (v := .int .i64 (((i + 1) * 64 : Nat) : Int)) (by show Value.int .i64 _ = _; congr 1; omega) ?_; refine tla ?_; refine nq ?_; exact ⟨_, by omega, i + 1, a34, c34, rls1 ++ [(⟨.slice (some ⟨b31, 0, none⟩) 1 1, [(.slice a30 64 c30, seenL (lineF xs i))], -1⟩ : RL)], by omega, hnext, rfl, rfl, rfl, rfl, rfl⟩
      · obtain rfl : i = n := by simp at h; omega
        rw [List.take_of_length_le (by rw [fromS_len]; exact Nat.le_refl _)] at hp1
        refine tc_exit ?_; refine q_then_e (q_then_e (q_block_x (q_then_n ?_))); refine sr ?_; refine tlm ?_; refine tla ?_; refine tla ?_; refine nq ?_; refine tc_ret ?_; refine ⟨.tuple #[.pointer (some ⟨b13, 0, none⟩), .int .i64 0], F * RDev b13 (fromS i xs), res2 rfl rfl rfl, fun _ _ h => ?_, b13, rfl, rfl⟩; refine rdev_back (lv := .slice aL i cL) (rls := rls1) (av := .slice none 0 0) (kvs := []) (fromS_wf hn hn2 hb) hp1 rfl _ _ ?_
        have h1 := sl_nil (k := 2) h
        refine h1.perm ?_
        unfold RDevC ArmsR rdcs
        rw [fromS_len]
        show _ = F * (_ * _ * _ * (Sl 2 (.slice none 0 0) 0 [] * emp))
        rw [star_emp]
        rw [show (fromS i xs).ops = 0 from rfl, show (fromS i xs).cnt = 0 from rfl, show (fromS i xs).off = false from rfl]
        ac_rfl
theorem rNew_c {F : SP} {n : Nat} {p : Int} (hp : p = ((n * 64 : Nat) : Int) := by omega) (hn : 0 < n := by omega) (hn2 : n ≤ 65536 := by omega) :
    Fn Try.prog 103 #[.int .i64 p] (F) (fun v B => ∃ d, v = .tuple #[.pointer (some ⟨d, 0, none⟩), .int .i64 0] ∧ B = F * RDev d (newS n)) := by
  refine fn_enterW (args := [.int .i64 p]) Try.func103 rfl Try.ntmps103 (by simp) ?_
  subst hp
  have hfit : fitsB ((n * 64 : Nat) : Int) = true := by unfold fitsB; simp; omega
  refine sr ?_; refine tla ?_; refine tla ?_; refine nq ?_; refine tc_seq ?_; refine sr ?_; refine tlm ?_; refine tl_c rfl (o_call bd125 rfl (rfits_c (p := ((n * 64 : Nat) : Int)))) ?_; rintro _ _ ⟨rfl, rfl⟩; refine tv (o_not rfl) ?_; refine nq ?_; refine tc_cond rfl (fun h => ?_) (fun h => ?_)
  · exfalso; rw [hfit] at h; exact absurd h (by decide)
  · try simp only [lv1, lv2, lv3, lv4, lv5, lv6, Bool.not_true, Bool.not_false] at h
    refine tc_skip ?_; refine q_then_n ?_; refine sr ?_; refine tlm ?_; refine tl_x rfl (o_makeSlice (len := n * 64) (cap := n * 64) Try.underlying28 sz5 by5 z5 rfl rfl rfl (by omega) (by omega) (by omega)) ?_; rintro _ _ ⟨b8, rfl, rfl⟩; refine tl_c rfl (o_call bd65 rfl (rFrom_c (n := n) (xs := List.replicate (n * 64) 0) (hr := by rw [bys_rep]; exact rs_pt0) (hx := List.length_replicate) (hb := fun x hx => by rw [List.eq_of_mem_replicate hx]; decide))) ?_; rintro _ _ ⟨d9, rfl, rfl⟩; refine tv (o_extract rfl rfl) ?_; refine tv (o_extract rfl rfl) ?_; refine tla ?_; refine tla ?_; refine nq ?_; refine tc_ret ?_; exact ⟨.tuple #[.pointer (some ⟨d9, 0, none⟩), .int .i64 0], F * RDev d9 (newS n), res2 rfl rfl rfl, by rw [fromS_zero]; exact Dr.sat (by repeat (first | with_reducible exact dr_refl | apply dr_keep | apply dr_drop)), d9, rfl, rfl⟩
theorem rOps_c {A R : SP} {C : SP → SP} {r : Nat} {s : DevS} (hc : Ct A (RDev r s) R C := by repeat (first | with_reducible exact ct_here | apply ct_left))  :
    Fn Try.prog 69 #[.pointer (some ⟨r, 0, none⟩)] A (fun v B => v = .int .i64 s.ops ∧ A = B) := by
  obtain ⟨rfl, hC⟩ := hc
  exact fn_rdevR0 fun A lv rls av hR => rOps_f A hR
theorem rOff_c {A R : SP} {C : SP → SP} {r : Nat} {s : DevS} (hc : Ct A (RDev r s) R C := by repeat (first | with_reducible exact ct_here | apply ct_left))  :
    Fn Try.prog 79 #[.pointer (some ⟨r, 0, none⟩)] A (fun v B => v = .bool s.off ∧ A = B) := by
  obtain ⟨rfl, hC⟩ := hc
  exact fn_rdevR0 fun A lv rls av hR => rOff_f A hR
theorem rSize_c {A R : SP} {C : SP → SP} {r : Nat} {s : DevS} (hc : Ct A (RDev r s) R C := by repeat (first | with_reducible exact ct_here | apply ct_left))  :
    Fn Try.prog 141 #[.pointer (some ⟨r, 0, none⟩)] A (fun v B => v = .int .i64 ((s.ls.length * 64 : Nat) : Int) ∧ A = B) := by
  obtain ⟨rfl, hC⟩ := hc
  exact fn_rdevR0 fun A lv rls av hR => rSize_f A hR
theorem rStore8_c {A R : SP} {C : SP → SP} {r : Nat} {s : DevS} (hc : Ct A (RDev r s) R C := by repeat (first | with_reducible exact ct_here | apply ct_left)) {v : Nat} {p : Int} (hp : -9223372036854775808 ≤ p ∧ p ≤ 9223372036854775807 := by omega) (hv : v < 18446744073709551616 := by omega) (hroom : Room 1 s := by assumption) :
    Fn Try.prog 107 #[.pointer (some ⟨r, 0, none⟩), .int .i64 p, .int .u64 (v : Nat)] A (fun r_ B => ∃ e s2, st8 p v s = (e, s2) ∧ r_ = .int .i64 e ∧ B = C (RDev r s2)) := by
  obtain ⟨rfl, hC⟩ := hc
  exact (rStore8_f R hp hv hroom).mono fun _ _ h => ⟨(st8 p v s).1, (st8 p v s).2, rfl, h.1, by rw [hC]; exact h.2⟩
theorem rFlush_c {A R : SP} {C : SP → SP} {r : Nat} {s : DevS} (hc : Ct A (RDev r s) R C := by repeat (first | with_reducible exact ct_here | apply ct_left)) {p : Int} (hp : -9223372036854775808 ≤ p ∧ p ≤ 9223372036854775807 := by omega) :
    Fn Try.prog 109 #[.pointer (some ⟨r, 0, none⟩), .int .i64 p] A (fun r_ B => ∃ e s2, fl1 p s = (e, s2) ∧ r_ = .int .i64 e ∧ B = C (RDev r s2)) := by
  obtain ⟨rfl, hC⟩ := hc
  exact (rFlush_f R hp).mono fun _ _ h => ⟨(fl1 p s).1, (fl1 p s).2, rfl, h.1, by rw [hC]; exact h.2⟩
theorem rFence_c {A R : SP} {C : SP → SP} {r : Nat} {s : DevS} (hc : Ct A (RDev r s) R C := by repeat (first | with_reducible exact ct_here | apply ct_left))  :
    Fn Try.prog 110 #[.pointer (some ⟨r, 0, none⟩)] A (fun r_ B => ∃ e s2, fe s = (e, s2) ∧ r_ = .int .i64 e ∧ B = C (RDev r s2)) := by
  obtain ⟨rfl, hC⟩ := hc
  exact (rFence_f R).mono fun _ _ h => ⟨(fe s).1, (fe s).2, rfl, h.1, by rw [hC]; exact h.2⟩
theorem rWake_c {A R : SP} {C : SP → SP} {r : Nat} {s : DevS} (hc : Ct A (RDev r s) R C := by repeat (first | with_reducible exact ct_here | apply ct_left))  :
    Fn Try.prog 80 #[.pointer (some ⟨r, 0, none⟩)] A (fun r_ B => r_ = .int .i64 (if s.off then 0 else 3) ∧ B = C (RDev r { s with off := false })) := by
  obtain ⟨rfl, hC⟩ := hc
  exact (rWake_f R).mono fun _ _ h => ⟨h.1, by rw [hC]; exact h.2⟩
theorem rCrash_c {A R : SP} {C : SP → SP} {r : Nat} {s : DevS} (hc : Ct A (RDev r s) R C := by repeat (first | with_reducible exact ct_here | apply ct_left)) {a : Option Addr} {c m : Nat} {keep : List Int} (hr : Rs R a (ints keep) := by repeat (first | assumption | with_reducible exact rs_sl | with_reducible exact rs_pt0 | exact rs_none | apply Rs.left)) (hk : ∀ k ∈ keep, k ≤ 9223372036854775807 := by assumption) (hm : keep.length = m := by first | assumption | rfl) (hkl : m ≤ 17592186044416 := by omega) :
    Fn Try.prog 71 #[.pointer (some ⟨r, 0, none⟩), .slice a m c] A (fun r_ B => ∃ e s2, crS keep s = (e, s2) ∧ r_ = .int .i64 e ∧ B = C (RDev r s2)) := by
  obtain ⟨rfl, hC⟩ := hc
  exact (rCrash_f R hr hk hm hkl).mono fun _ _ h => ⟨(crS keep s).1, (crS keep s).2, rfl, h.1, by rw [hC]; exact h.2⟩
theorem rStore_c {A R : SP} {C : SP → SP} {r : Nat} {s : DevS} (hc : Ct A (RDev r s) R C := by repeat (first | with_reducible exact ct_here | apply ct_left)) {a : Option Addr} {c m : Nat} {p : Int} {xs : List Nat} (hr : Rs R a (bys xs) := by repeat (first | assumption | with_reducible exact rs_sl | with_reducible exact rs_pt0 | exact rs_none | apply Rs.left)) (hm : xs.length = m := by first | assumption | rfl) (hmc : m ≤ c := by first | assumption | omega) (hb : ∀ x ∈ xs, x < 256 := by assumption) (hml : m ≤ 140737488351232 := by omega) (hp : -9223372036854775808 ≤ p ∧ p ≤ 9223372036854775807 := by omega) (hroom : rdy s.ls.length s.off p m = 0 → Room m s := by assumption) :
    Fn Try.prog 138 #[.pointer (some ⟨r, 0, none⟩), .int .i64 p, .slice a m c] A (fun r_ B => ∃ e s2, sto p xs s = (e, s2) ∧ r_ = .int .i64 e ∧ B = C (RDev r s2)) := by
  obtain ⟨rfl, hC⟩ := hc
  exact (rStoreW_f R hr hm hmc hb hml hp hroom).mono fun _ _ h => ⟨(sto p xs s).1, (sto p xs s).2, rfl, h.1, by rw [hC]; exact h.2⟩
theorem rArm_c {A R : SP} {C : SP → SP} {r : Nat} {s : DevS} (hc : Ct A (RDev r s) R C := by repeat (first | with_reducible exact ct_here | apply ct_left)) {a : Option Addr} {c m : Nat} {kvs : List Value} {ars : List (Int × List Int)} (hr : RdA R a kvs ars) (hm : ars.length = m := by first | assumption | rfl) (hl : m ≤ 17592186044416 := by omega) (hk : ∀ x ∈ ars, (-9223372036854775808 ≤ x.1 ∧ x.1 ≤ 9223372036854775807) ∧ x.2.length ≤ 17592186044416 ∧ ∀ k ∈ x.2, k ≤ 9223372036854775807) :
    Fn Try.prog 77 #[.pointer (some ⟨r, 0, none⟩), .slice a m c] A (fun r_ B => ∃ e s2, armS ars s = (e, s2) ∧ r_ = .int .i64 e ∧ B = C (RDev r s2)) := by
  obtain ⟨rfl, hC⟩ := hc
  exact (rArm_f R hr hm hl hk).mono fun _ _ h => ⟨(armS ars s).1, (armS ars s).2, rfl, h.1, by rw [hC]; exact h.2⟩
theorem rImage_c {A R : SP} {C : SP → SP} {r : Nat} {s : DevS} (hc : Ct A (RDev r s) R C := by repeat (first | with_reducible exact ct_here | apply ct_left))  :
    Fn Try.prog 70 #[.pointer (some ⟨r, 0, none⟩)] A (fun v B => ∃ a c, v = .slice a (s.ls.length * 64) c ∧ s.ls.length * 64 ≤ c ∧ B = A * Sl 1 (.slice a (s.ls.length * 64) c) (s.ls.length * 64) (bys (imgS s))) := by
  obtain ⟨rfl, hC⟩ := hc
  exact (fn_rdevR (q := fun v X => ∃ a c, v = .slice a (s.ls.length * 64) c ∧ s.ls.length * 64 ≤ c ∧ X = Sl 1 (.slice a (s.ls.length * 64) c) (s.ls.length * 64) (bys (imgS s))) fun A lv rls av hR => rImage_f A hR).mono fun v B ⟨X, e, a, c, h1, h2, h3⟩ => ⟨a, c, h1, h2, by rw [e, h3]⟩
theorem rContents_c {A R : SP} {C : SP → SP} {r : Nat} {s : DevS} (hc : Ct A (RDev r s) R C := by repeat (first | with_reducible exact ct_here | apply ct_left)) {q : Nat} (hq : q < s.ls.length := by omega) :
    Fn Try.prog 82 #[.pointer (some ⟨r, 0, none⟩), .int .i64 (q : Nat)] A (fun v B => ∃ a c vs, v = .slice a (ctS q s).length c ∧ (ctS q s).length ≤ c ∧ B = A * Parts vs (ctS q s) * Sl 1 (.slice a (ctS q s).length c) (ctS q s).length vs) := by
  obtain ⟨rfl, hC⟩ := hc
  exact (fn_rdevR (q := fun v X => ∃ a c vs, v = .slice a (ctS q s).length c ∧ (ctS q s).length ≤ c ∧ X = Parts vs (ctS q s) * Sl 1 (.slice a (ctS q s).length c) (ctS q s).length vs) fun A lv rls av hR => rContents_f A hR hq).mono fun v B ⟨X, e, a, c, vs, h1, h2, h3⟩ => ⟨a, c, vs, h1, h2, by rw [e, h3]; simp only [star_assoc]⟩
theorem rContentsNo_c {A R : SP} {C : SP → SP} {r : Nat} {s : DevS} (hc : Ct A (RDev r s) R C := by repeat (first | with_reducible exact ct_here | apply ct_left)) {p : Int} (hno : p < 0 ∨ (s.ls.length : Int) ≤ p := by omega) :
    Fn Try.prog 82 #[.pointer (some ⟨r, 0, none⟩), .int .i64 p] A (fun v B => v = .slice none 0 0 ∧ A = B) := by
  obtain ⟨rfl, hC⟩ := hc
  exact fn_rdevR0 fun A lv rls av hR => rContentsNo_f A hR hno
theorem rLoad_c {A R : SP} {C : SP → SP} {r : Nat} {s : DevS} (hc : Ct A (RDev r s) R C := by repeat (first | with_reducible exact ct_here | apply ct_left)) {p m : Nat} (hoff : s.off = false := by assumption) (hpm : p + m ≤ s.ls.length * 64 := by omega) :
    Fn Try.prog 106 #[.pointer (some ⟨r, 0, none⟩), .int .i64 (p : Nat), .int .i64 (m : Nat)] A (fun v B => ∃ a c, v = .tuple #[.slice a m c, .int .i64 0] ∧ m ≤ c ∧ B = A * Sl 1 (.slice a m c) m (bys (((imgS s).drop p).take m))) := by
  obtain ⟨rfl, hC⟩ := hc
  exact (fn_rdevR (q := fun v X => ∃ a c, v = .tuple #[.slice a m c, .int .i64 0] ∧ m ≤ c ∧ X = Sl 1 (.slice a m c) m (bys (((imgS s).drop p).take m))) fun A lv rls av hR => rLoad_f A hR hoff hpm).mono fun v B ⟨X, e, a, c, h1, h2, h3⟩ => ⟨a, c, h1, h2, by rw [e, h3]⟩
theorem rLoadNo_c {A R : SP} {C : SP → SP} {r : Nat} {s : DevS} (hc : Ct A (RDev r s) R C := by repeat (first | with_reducible exact ct_here | apply ct_left)) {p m : Int} (hp : -9223372036854775808 ≤ p ∧ p ≤ 9223372036854775807 := by omega) (hm : -9223372036854775808 ≤ m ∧ m ≤ 9223372036854775807 := by omega) (hno : rdy s.ls.length s.off p m ≠ 0 := by assumption) :
    Fn Try.prog 106 #[.pointer (some ⟨r, 0, none⟩), .int .i64 p, .int .i64 m] A (fun v B => v = .tuple #[.slice none 0 0, .int .i64 (rdy s.ls.length s.off p m)] ∧ A = B) := by
  obtain ⟨rfl, hC⟩ := hc
  exact fn_rdevR0 fun A lv rls av hR => rLoadNo_f A hR hp hm hno
end Go.Vl

/- What the row rests on, part 4: a calculus of assertions, walks of functions over it, and plain laws. Conditions: none. -/
import Derived.Deep.QuietTactic
import Derived.BigQuiet
import Derived.WalkKit
import Derived.Test.YtndfopmdkcnkgaaProg
import Derived.OrdersHeld
import Derived.Laws.BytesArg
import Derived.RangeFuncRecord
import Derived.TacticsIn
import Derived.Deep.Slices
import Derived.OpenShut
import Derived.ChangeArms
import Derived.SizedLaws
import Derived.ChangeSame
import Derived.Test.YtndfopmdkcnkgaaRows
import Derived.Sort.QuietThIn
import Derived.Test.YtndfopmdkcnkgaaMg3
set_option linter.unusedVariables false
set_option linter.unusedSimpArgs false
namespace Go.Vl
open Go Go.Proofs
namespace Rg
section
variable {P : Program} {n : Nat} {ops : Array Oper} {A S : SP} {ρ : Env} {o : Oper} {Q : Post}
def notCall (o : Oper) : Bool := match o.op with | .call _ => false | _ => true
theorem about_none {o : Oper} (h : notCall o = true) (w : World) (e : Operand → Value) : o.about P w e = none := by
  unfold notCall at h
  unfold Oper.about
  cases ho : o.op <;> first | rfl | (simp [ho] at h)
def TH (P : Program) (n : Nat) (ops : Array Oper) (Q : Post) (S : SP) (fuel : Nat) (listed : Array Bool) (ρ : Env) (A : SP) : Prop :=
  ∀ g a w, Agr n ρ a → sat g w A → wpAnyIn (Fc ⟨none⟩) 0 P .any ops (lift g n Q) fuel listed a w
theorem tc_regh {μ : Rm} {id : Nat} {l : List Oper} (hm : P.follows .mixedOrders = true) (hd : Dr A S) (h : TH P n l.toArray Q S l.length (Array.replicate l.length false) ρ A) (hn : nodB l = true := by kernel_rfl) : @TC μ P n (.region id l.toArray true) Q ρ A :=
  tc_regt hm hn h
theorem th_done {fuel : Nat} {listed : Array Bool} (hr : Region.ready .any ops listed = []) (h : Q .normal ρ A) : TH P n ops Q S fuel listed ρ A := fun g a w ha hs =>
  wpAnyIn_done hr ⟨rfl, ρ, A, ha, hs, h⟩ fuel
theorem th_take {fuel i : Nat} {listed listed' : Array Bool} {v : Value} (hi : ops[i]? = some o) (hs' : Region.noSelect ops = true) (hf : Region.free .any ops listed i = true) (hr : (Region.ready .any ops listed).contains i = true)
    (hl : listed.setIfInBounds i true = listed') (hw : wantE n ops ρ o = true) (hv : OpV P n ρ emp o v) (k : TH P n ops Q S fuel listed' (put n ρ o.dst v) A) (hc : notCall o = true := by rfl) : TH P n ops Q S (fuel + 1) listed ρ A := fun g a w ha hs =>
  wpAnyIn_take rfl hi hs' hf hr (fun c a w h => absurd h.1 (by simp [okE])) ⟨.inl ⟨by rw [want_eq ha, hw], fun w' => by
    rw [ha.eval]
    exact hv ⟨w'.os, w'.tape, w'.output⟩ w' ⟨rfl, rfl, rfl, _, rfl, fun _ _ _ h => by cases h⟩⟩, fun w' => about_none hc w' _⟩ (by rw [hl]; exact k g _ w (ha.put _ _) hs)
def OH (P : Program) (n : Nat) (ops : Array Oper) (Q : Post) (S : SP) (fuel i : Nat) (listed : Array Bool) (ρ : Env) (A : SP) : Prop :=
  ∀ g a w, Agr n ρ a → sat g w A → wpOpIn (Fc ⟨none⟩) 0 P ops (lift g n Q) i (wpAnyIn (Fc ⟨none⟩) 0 P .any ops (lift g n Q) fuel (listed.setIfInBounds i true)) a w
theorem th_all {fuel : Nat} {listed : Array Bool} {rs : List Nat} (hr : Region.ready .any ops listed = rs) (hne : rs ≠ []) (h : ∀ i ∈ rs, OH P n ops Q S fuel i listed ρ A) : TH P n ops Q S (fuel + 1) listed ρ A := fun g a w ha hs =>
  wpAnyIn_all hr hne fun i hi => h i hi g a w ha hs
theorem th_one {fuel i : Nat} {listed : Array Bool} (hr : Region.ready .any ops listed = [i]) (h : OH P n ops Q S fuel i listed ρ A) : TH P n ops Q S (fuel + 1) listed ρ A := th_all hr (by simp) (by simpa using h)
theorem th_two {fuel i j : Nat} {listed : Array Bool} (hr : Region.ready .any ops listed = [i, j]) (h : OH P n ops Q S fuel i listed ρ A) (h' : OH P n ops Q S fuel j listed ρ A) : TH P n ops Q S (fuel + 1) listed ρ A :=
  th_all hr (by simp) (by simpa using ⟨h, h'⟩)
theorem th_three {fuel i j k : Nat} {listed : Array Bool} (hr : Region.ready .any ops listed = [i, j, k]) (h : OH P n ops Q S fuel i listed ρ A) (h' : OH P n ops Q S fuel j listed ρ A) (h'' : OH P n ops Q S fuel k listed ρ A) : TH P n ops Q S (fuel + 1) listed ρ A :=
  th_all hr (by simp) (by simpa using ⟨h, h', h''⟩)
section
variable {fuel i : Nat} {listed listed' : Array Bool}
theorem oh_v {v : Value} (hi : ops[i]? = some o) (hl : listed.setIfInBounds i true = listed') (hw : wantE n ops ρ o = true) (h : OpV P n ρ A o v) (k : TH P n ops Q S fuel listed' (put n ρ o.dst v) A) : OH P n ops Q S fuel i listed ρ A := fun g a w ha hs => by
  subst hl
  unfold wpOpIn
  simp only [hi, want_eq ha, hw, if_true]
  refine ⟨fun _ _ => trivial, ?_⟩
  rw [ha.eval, sem_eq (h g w hs) (by simp)]
  exact k g _ w (ha.put _ _) hs
theorem oh_x {R : Value → SP → Prop} (hi : ops[i]? = some o) (hl : listed.setIfInBounds i true = listed') (hw : wantE n ops ρ o = true) (h : OpX P n ρ A o R) (k : ∀ v B, R v B → Dr B S ∧ TH P n ops Q S fuel listed' (put n ρ o.dst v) B) : OH P n ops Q S fuel i listed ρ A := fun g a w ha hs => by
  subst hl
  unfold wpOpIn
  simp only [hi, want_eq ha, hw, if_true]
  refine ⟨fun _ _ => trivial, ?_⟩
  obtain ⟨v, w', B, hr, hb, hR⟩ := h g w hs
  rw [ha.eval, sem_eq hr (by simp)]
  exact (k v B hR).2 g _ w' (ha.put _ _) hb
theorem oh_c {R : Value → SP → Prop} (hi : ops[i]? = some o) (hl : listed.setIfInBounds i true = listed') (hw : wantE n ops ρ o = true) (h : OpC P n ρ A o R) (k : ∀ v B, R v B → Dr B S ∧ TH P n ops Q S fuel listed' (put n ρ o.dst v) B) : OH P n ops Q S fuel i listed ρ A := fun g a w ha hs => by
  subst hl
  unfold wpOpIn
  simp only [hi, want_eq ha, hw, if_true]
  refine ⟨fun _ _ => trivial, ?_⟩
  obtain ⟨f, args, w', hr, hc⟩ := h g w hs
  rw [ha.eval, sem_eq hr (by simp)]
  refine ⟨fun h => (by cases h), ?_⟩
  have hc' : CallsIn Fence.wide (0 - 1) P f args w' fun e w'' => ∃ v B, e = .returned v ∧ R v B ∧ sat g w'' B := callsIn_wide.2 hc
  refine CallsIn.mono (show CallsIn (Fc ⟨none⟩) (0 - 1) P f args w' _ from hc') fun e w'' ⟨v, B, he, hR, hb⟩ => ?_
  subst he
  exact (k v B hR).2 g _ w'' (ha.put _ _) hb
theorem oh_u {B : SP} (hi : ops[i]? = some o) (hl : listed.setIfInBounds i true = listed') (hw : wantE n ops ρ o = true) (h : OpU P n ρ A o B) (hd : Dr B S) (k : TH P n ops Q S fuel listed' (put n ρ o.dst undef) B) : OH P n ops Q S fuel i listed ρ A := fun g a w ha hs => by
  subst hl
  unfold wpOpIn
  simp only [hi, want_eq ha, hw, if_true]
  refine ⟨fun _ _ => trivial, ?_⟩
  obtain ⟨w', hr, hb⟩ := h g w hs
  rw [ha.eval, sem_eq hr (by simp)]
  exact k g _ w' (ha.put _ _) hb
end
theorem th_env {fuel : Nat} {listed : Array Bool} {d : Nat} {v : Value} (h : ρ d = v) (k : TH P n ops Q S fuel listed (upd ρ d v) A) : TH P n ops Q S fuel listed ρ A := by
  rw [← env_set h] at k; exact k
end
end Rg
end Go.Vl

set_option linter.unusedVariables false
set_option linter.unusedSimpArgs false
namespace Go.Vl
open Go Go.Proofs
theorem has_rt {F R : SP} {b : Nat} {o : Obj} (k : Has R b o) : Has (F * R) b o := fun g w h => k g w h.right
theorem flL_e {N i q : Nat} {s s2 : DevS} {e : Int} (hi : i < N) (h : fl1 (((q + i) * 64 : Nat) : Int) s = (e, s2)) (he : e ≠ 0) : flL (N - i) (q + i) s = (e, s2) := by
  rw [show N - i = (N - (i + 1)) + 1 by omega]
  show (if _ then _ else _) = _
  rw [h, if_pos he]
theorem flL_o {N i q : Nat} {s s2 : DevS} (hi : i < N) (h : fl1 (((q + i) * 64 : Nat) : Int) s = (0, s2)) : flL (N - i) (q + i) s = flL (N - (i + 1)) (q + (i + 1)) s2 := by
  rw [show N - i = (N - (i + 1)) + 1 by omega]
  show (if _ then _ else _) = _
  rw [h, if_neg (by simp)]; rfl
attribute [local irreducible] crk crL crc Sl pt ro Dev imgS recS readS recsF rdW rdO rkT Parts
namespace Rg
theorem back_c {A R : SP} {C : SP → SP} {d : Nat} {s : DevS} (hc : Ct A (Dev d s) R C := by repeat (first | with_reducible exact ct_here | apply ct_left)) {bl at_ sz : Nat} (hl : Has R bl (cl (lcs11 d at_ sz) 52) := by (repeat (first | assumption | with_reducible exact has_here | with_reducible exact has_pt | apply has_left))) {a : Option Addr} {c m p : Nat} {xs : List Nat} (hr : Rs R a (bys xs) := by repeat (first | assumption | with_reducible exact rs_sl | with_reducible exact rs_pt0 | exact rs_none | apply Rs.left)) (hm : xs.length = m := by first | assumption | rfl) (hmc : m ≤ c := by first | assumption | omega) (hb : ∀ x ∈ xs, x < 256 := by assumption) (h1 : 1 ≤ m := by omega) (hpm : p + m ≤ s.ls.length * 64 := by omega) (hroom : Room m s := by assumption) :
    Fn Try.prog 67 #[.pointer (some ⟨bl, 0, none⟩), .agg #[.int .i64 (p : Nat), .slice a m c]] (A) (fun r B => ∃ e s2, backS (p, xs) s = (e, s2) ∧ r = .int .i64 e ∧ B = C (Dev d s2)) := by
  refine fn_enterW (args := [.pointer (some ⟨bl, 0, none⟩), .agg #[.int .i64 (p : Nat), .slice a m c]]) Try.func67 rfl Try.ntmps67 (by simp) ?_; refine tc_have (fun _ _ h => ct_wf2 hc h) fun hw => ?_
  have htop := hw.top
  have hpos := hw.pos
  obtain ⟨rfl, hC⟩ := hc
  have hAC : ∀ g w, sat g w (R * Dev d s) → sat g w (C (Dev d s)) := fun g w h => by rw [hC]; exact h
  refine tc_seq ?_; refine tc_reg ?_; refine tl_x rfl (o_box rfl rfl) ?_; rintro _ _ ⟨b2, rfl, rfl⟩; refine tl_x rfl (o_box rfl rfl) ?_; rintro _ _ ⟨b3, rfl, rfl⟩; refine tl_x rfl (o_alloc z25 rfl) ?_; rintro _ _ ⟨b4, rfl, rfl⟩; refine tl_nil ?_; refine q_then_n ?_; refine tc_seq ?_; refine tc_seq ?_; refine tc_cut (fun ρ BB => ∃ (e16 : Int) (s16 : DevS), (sto (p : Nat) xs s = (e16, s16)) ∧ ρ 5 = .int .i64 e16 ∧ ρ 37 = undef ∧ ρ 2 = .pointer (some ⟨b2, 0, none⟩) ∧ ρ 3 = .pointer (some ⟨b3, 0, none⟩) ∧ ρ 4 = .pointer (some ⟨b4, 0, none⟩) ∧ BB = R * Dev d s16 * pt b2 (cl [.pointer (some ⟨bl, 0, none⟩)] 37) * pt b3 (cl [.int .i64 (p : Nat), .slice a m c] 70) * pt b4 (cl [.int .i64 0] 25)) ?_ ?_
  · skip
    refine tc_regh (S := R) mo (by repeat (first | with_reducible exact dr_refl | apply dr_keep | apply dr_drop)) ?_
    show TH _ _ _ _ _ 10 #[ff,ff,ff,ff,ff,ff,ff,ff,ff,ff] _ _
    refine th_take (i := 4) (listed' := #[ff,ff,ff,ff,tt,ff,ff,ff,ff,ff]) rfl (by kernel_rfl) (by kernel_rfl) (by kernel_rfl) rfl rfl (o_fieldAddr (o := 0) Try.underlying70 rfl rfl sz3 rfl) ?_; refine th_take (i := 6) (listed' := #[ff,ff,ff,ff,tt,ff,tt,ff,ff,ff]) rfl (by kernel_rfl) (by kernel_rfl) (by kernel_rfl) rfl rfl (o_fieldAddr (o := 1) Try.underlying70 rfl rfl sz60 rfl) ?_; refine th_three (i := 0) (j := 5) (k := 7) (by kernel_rfl) ?_ ?_ ?_
    · skip
      refine oh_v (i := 0) (listed' := #[tt,ff,ff,ff,tt,ff,tt,ff,ff,ff]) rfl rfl rfl (by first | exact o_load p37 rfl (by repeat (first | with_reducible exact has_here | with_reducible exact has_pt | apply has_left)) rfl | exact o_loadC p37 rfl (by assumption)) ?_; refine th_take (i := 1) (listed' := #[tt,tt,ff,ff,tt,ff,tt,ff,ff,ff]) rfl (by kernel_rfl) (by kernel_rfl) (by kernel_rfl) rfl rfl (o_nilCheck rfl) ?_; refine th_take (i := 2) (listed' := #[tt,tt,tt,ff,tt,ff,tt,ff,ff,ff]) rfl (by kernel_rfl) (by kernel_rfl) (by kernel_rfl) rfl rfl (o_fieldAddr (o := 0) Try.underlying52 rfl rfl sz31 rfl) ?_; refine th_three (i := 3) (j := 5) (k := 7) (by kernel_rfl) ?_ ?_ ?_
      · skip
        refine oh_v (i := 3) (listed' := #[tt,tt,tt,tt,tt,ff,tt,ff,ff,ff]) rfl rfl rfl (o_load p31 rfl (by repeat (first | assumption | apply has_left)) rfl) ?_; refine th_two (i := 5) (j := 7) (by kernel_rfl) ?_ ?_
        · skip
          refine oh_v (i := 5) (listed' := #[tt,tt,tt,tt,tt,tt,tt,ff,ff,ff]) rfl rfl rfl (by first | exact o_load p3 rfl (by repeat (first | with_reducible exact has_here | with_reducible exact has_pt | apply has_left)) rfl | exact o_loadC p3 rfl (by assumption)) ?_; refine th_one (i := 7) (by kernel_rfl) ?_; refine oh_v (i := 7) (listed' := #[tt,tt,tt,tt,tt,tt,tt,tt,ff,ff]) rfl rfl rfl (by first | exact o_load p60 rfl (by repeat (first | with_reducible exact has_here | with_reducible exact has_pt | apply has_left)) rfl | exact o_loadC p60 rfl (by assumption)) ?_; refine th_one (i := 8) (by kernel_rfl) ?_; refine oh_c (i := 8) (listed' := #[tt,tt,tt,tt,tt,tt,tt,tt,tt,ff]) rfl rfl rfl (o_call bd47 rfl (Store_c (s := s) (p := (p : Nat)) (xs := xs) (hroom := fun _ => hroom))) ?_; rintro _ _ ⟨e16, s16, hs16, rfl, rfl⟩; refine ⟨by repeat (first | with_reducible exact dr_refl | apply dr_keep | apply dr_drop), ?_⟩; refine th_take (i := 9) (listed' := #[tt,tt,tt,tt,tt,tt,tt,tt,tt,tt]) rfl (by kernel_rfl) (by kernel_rfl) (by kernel_rfl) rfl rfl (o_assign (by conv => lhs; whnf)) ?_; refine th_done (by kernel_rfl) ?_; exact ⟨e16, s16, hs16, rfl, rfl, rfl, rfl, rfl, rfl⟩
        · skip
          refine oh_v (i := 7) (listed' := #[tt,tt,tt,tt,tt,ff,tt,tt,ff,ff]) rfl rfl rfl (by first | exact o_load p60 rfl (by repeat (first | with_reducible exact has_here | with_reducible exact has_pt | apply has_left)) rfl | exact o_loadC p60 rfl (by assumption)) ?_; refine th_one (i := 5) (by kernel_rfl) ?_; refine oh_v (i := 5) (listed' := #[tt,tt,tt,tt,tt,tt,tt,tt,ff,ff]) rfl rfl rfl (by first | exact o_load p3 rfl (by repeat (first | with_reducible exact has_here | with_reducible exact has_pt | apply has_left)) rfl | exact o_loadC p3 rfl (by assumption)) ?_; refine th_one (i := 8) (by kernel_rfl) ?_; refine oh_c (i := 8) (listed' := #[tt,tt,tt,tt,tt,tt,tt,tt,tt,ff]) rfl rfl rfl (o_call bd47 rfl (Store_c (s := s) (p := (p : Nat)) (xs := xs) (hroom := fun _ => hroom))) ?_; rintro _ _ ⟨e16, s16, hs16, rfl, rfl⟩; refine ⟨by repeat (first | with_reducible exact dr_refl | apply dr_keep | apply dr_drop), ?_⟩; refine th_take (i := 9) (listed' := #[tt,tt,tt,tt,tt,tt,tt,tt,tt,tt]) rfl (by kernel_rfl) (by kernel_rfl) (by kernel_rfl) rfl rfl (o_assign (by conv => lhs; whnf)) ?_; refine th_done (by kernel_rfl) ?_; exact ⟨e16, s16, hs16, rfl, rfl, rfl, rfl, rfl, rfl⟩
      · skip
        refine oh_v (i := 5) (listed' := #[tt,tt,tt,ff,tt,tt,tt,ff,ff,ff]) rfl rfl rfl (by first | exact o_load p3 rfl (by repeat (first | with_reducible exact has_here | with_reducible exact has_pt | apply has_left)) rfl | exact o_loadC p3 rfl (by assumption)) ?_; refine th_two (i := 3) (j := 7) (by kernel_rfl) ?_ ?_
        · skip
          refine oh_v (i := 3) (listed' := #[tt,tt,tt,tt,tt,tt,tt,ff,ff,ff]) rfl rfl rfl (o_load p31 rfl (by repeat (first | assumption | apply has_left)) rfl) ?_; refine th_one (i := 7) (by kernel_rfl) ?_; refine oh_v (i := 7) (listed' := #[tt,tt,tt,tt,tt,tt,tt,tt,ff,ff]) rfl rfl rfl (by first | exact o_load p60 rfl (by repeat (first | with_reducible exact has_here | with_reducible exact has_pt | apply has_left)) rfl | exact o_loadC p60 rfl (by assumption)) ?_; refine th_one (i := 8) (by kernel_rfl) ?_; refine oh_c (i := 8) (listed' := #[tt,tt,tt,tt,tt,tt,tt,tt,tt,ff]) rfl rfl rfl (o_call bd47 rfl (Store_c (s := s) (p := (p : Nat)) (xs := xs) (hroom := fun _ => hroom))) ?_; rintro _ _ ⟨e16, s16, hs16, rfl, rfl⟩; refine ⟨by repeat (first | with_reducible exact dr_refl | apply dr_keep | apply dr_drop), ?_⟩; refine th_take (i := 9) (listed' := #[tt,tt,tt,tt,tt,tt,tt,tt,tt,tt]) rfl (by kernel_rfl) (by kernel_rfl) (by kernel_rfl) rfl rfl (o_assign (by conv => lhs; whnf)) ?_; refine th_done (by kernel_rfl) ?_; exact ⟨e16, s16, hs16, rfl, rfl, rfl, rfl, rfl, rfl⟩
        · skip
          refine oh_v (i := 7) (listed' := #[tt,tt,tt,ff,tt,tt,tt,tt,ff,ff]) rfl rfl rfl (by first | exact o_load p60 rfl (by repeat (first | with_reducible exact has_here | with_reducible exact has_pt | apply has_left)) rfl | exact o_loadC p60 rfl (by assumption)) ?_; refine th_one (i := 3) (by kernel_rfl) ?_; refine oh_v (i := 3) (listed' := #[tt,tt,tt,tt,tt,tt,tt,tt,ff,ff]) rfl rfl rfl (o_load p31 rfl (by repeat (first | assumption | apply has_left)) rfl) ?_; refine th_one (i := 8) (by kernel_rfl) ?_; refine oh_c (i := 8) (listed' := #[tt,tt,tt,tt,tt,tt,tt,tt,tt,ff]) rfl rfl rfl (o_call bd47 rfl (Store_c (s := s) (p := (p : Nat)) (xs := xs) (hroom := fun _ => hroom))) ?_; rintro _ _ ⟨e16, s16, hs16, rfl, rfl⟩; refine ⟨by repeat (first | with_reducible exact dr_refl | apply dr_keep | apply dr_drop), ?_⟩; refine th_take (i := 9) (listed' := #[tt,tt,tt,tt,tt,tt,tt,tt,tt,tt]) rfl (by kernel_rfl) (by kernel_rfl) (by kernel_rfl) rfl rfl (o_assign (by conv => lhs; whnf)) ?_; refine th_done (by kernel_rfl) ?_; exact ⟨e16, s16, hs16, rfl, rfl, rfl, rfl, rfl, rfl⟩
      · skip
        refine oh_v (i := 7) (listed' := #[tt,tt,tt,ff,tt,ff,tt,tt,ff,ff]) rfl rfl rfl (by first | exact o_load p60 rfl (by repeat (first | with_reducible exact has_here | with_reducible exact has_pt | apply has_left)) rfl | exact o_loadC p60 rfl (by assumption)) ?_; refine th_two (i := 3) (j := 5) (by kernel_rfl) ?_ ?_
        · skip
          refine oh_v (i := 3) (listed' := #[tt,tt,tt,tt,tt,ff,tt,tt,ff,ff]) rfl rfl rfl (o_load p31 rfl (by repeat (first | assumption | apply has_left)) rfl) ?_; refine th_one (i := 5) (by kernel_rfl) ?_; refine oh_v (i := 5) (listed' := #[tt,tt,tt,tt,tt,tt,tt,tt,ff,ff]) rfl rfl rfl (by first | exact o_load p3 rfl (by repeat (first | with_reducible exact has_here | with_reducible exact has_pt | apply has_left)) rfl | exact o_loadC p3 rfl (by assumption)) ?_; refine th_one (i := 8) (by kernel_rfl) ?_; refine oh_c (i := 8) (listed' := #[tt,tt,tt,tt,tt,tt,tt,tt,tt,ff]) rfl rfl rfl (o_call bd47 rfl (Store_c (s := s) (p := (p : Nat)) (xs := xs) (hroom := fun _ => hroom))) ?_; rintro _ _ ⟨e16, s16, hs16, rfl, rfl⟩; refine ⟨by repeat (first | with_reducible exact dr_refl | apply dr_keep | apply dr_drop), ?_⟩; refine th_take (i := 9) (listed' := #[tt,tt,tt,tt,tt,tt,tt,tt,tt,tt]) rfl (by kernel_rfl) (by kernel_rfl) (by kernel_rfl) rfl rfl (o_assign (by conv => lhs; whnf)) ?_; refine th_done (by kernel_rfl) ?_; exact ⟨e16, s16, hs16, rfl, rfl, rfl, rfl, rfl, rfl⟩
        · skip
          refine oh_v (i := 5) (listed' := #[tt,tt,tt,ff,tt,tt,tt,tt,ff,ff]) rfl rfl rfl (by first | exact o_load p3 rfl (by repeat (first | with_reducible exact has_here | with_reducible exact has_pt | apply has_left)) rfl | exact o_loadC p3 rfl (by assumption)) ?_; refine th_one (i := 3) (by kernel_rfl) ?_; refine oh_v (i := 3) (listed' := #[tt,tt,tt,tt,tt,tt,tt,tt,ff,ff]) rfl rfl rfl (o_load p31 rfl (by repeat (first | assumption | apply has_left)) rfl) ?_; refine th_one (i := 8) (by kernel_rfl) ?_; refine oh_c (i := 8) (listed' := #[tt,tt,tt,tt,tt,tt,tt,tt,tt,ff]) rfl rfl rfl (o_call bd47 rfl (Store_c (s := s) (p := (p : Nat)) (xs := xs) (hroom := fun _ => hroom))) ?_; rintro _ _ ⟨e16, s16, hs16, rfl, rfl⟩; refine ⟨by repeat (first | with_reducible exact dr_refl | apply dr_keep | apply dr_drop), ?_⟩; refine th_take (i := 9) (listed' := #[tt,tt,tt,tt,tt,tt,tt,tt,tt,tt]) rfl (by kernel_rfl) (by kernel_rfl) (by kernel_rfl) rfl rfl (o_assign (by conv => lhs; whnf)) ?_; refine th_done (by kernel_rfl) ?_; exact ⟨e16, s16, hs16, rfl, rfl, rfl, rfl, rfl, rfl⟩
    · skip
      refine oh_v (i := 5) (listed' := #[ff,ff,ff,ff,tt,tt,tt,ff,ff,ff]) rfl rfl rfl (by first | exact o_load p3 rfl (by repeat (first | with_reducible exact has_here | with_reducible exact has_pt | apply has_left)) rfl | exact o_loadC p3 rfl (by assumption)) ?_; refine th_two (i := 0) (j := 7) (by kernel_rfl) ?_ ?_
      · skip
        refine oh_v (i := 0) (listed' := #[tt,ff,ff,ff,tt,tt,tt,ff,ff,ff]) rfl rfl rfl (by first | exact o_load p37 rfl (by repeat (first | with_reducible exact has_here | with_reducible exact has_pt | apply has_left)) rfl | exact o_loadC p37 rfl (by assumption)) ?_; refine th_take (i := 1) (listed' := #[tt,tt,ff,ff,tt,tt,tt,ff,ff,ff]) rfl (by kernel_rfl) (by kernel_rfl) (by kernel_rfl) rfl rfl (o_nilCheck rfl) ?_; refine th_take (i := 2) (listed' := #[tt,tt,tt,ff,tt,tt,tt,ff,ff,ff]) rfl (by kernel_rfl) (by kernel_rfl) (by kernel_rfl) rfl rfl (o_fieldAddr (o := 0) Try.underlying52 rfl rfl sz31 rfl) ?_; refine th_two (i := 3) (j := 7) (by kernel_rfl) ?_ ?_
        · skip
          refine oh_v (i := 3) (listed' := #[tt,tt,tt,tt,tt,tt,tt,ff,ff,ff]) rfl rfl rfl (o_load p31 rfl (by repeat (first | assumption | apply has_left)) rfl) ?_; refine th_one (i := 7) (by kernel_rfl) ?_; refine oh_v (i := 7) (listed' := #[tt,tt,tt,tt,tt,tt,tt,tt,ff,ff]) rfl rfl rfl (by first | exact o_load p60 rfl (by repeat (first | with_reducible exact has_here | with_reducible exact has_pt | apply has_left)) rfl | exact o_loadC p60 rfl (by assumption)) ?_; refine th_one (i := 8) (by kernel_rfl) ?_; refine oh_c (i := 8) (listed' := #[tt,tt,tt,tt,tt,tt,tt,tt,tt,ff]) rfl rfl rfl (o_call bd47 rfl (Store_c (s := s) (p := (p : Nat)) (xs := xs) (hroom := fun _ => hroom))) ?_; rintro _ _ ⟨e16, s16, hs16, rfl, rfl⟩; refine ⟨by repeat (first | with_reducible exact dr_refl | apply dr_keep | apply dr_drop), ?_⟩; refine th_take (i := 9) (listed' := #[tt,tt,tt,tt,tt,tt,tt,tt,tt,tt]) rfl (by kernel_rfl) (by kernel_rfl) (by kernel_rfl) rfl rfl (o_assign (by conv => lhs; whnf)) ?_; refine th_done (by kernel_rfl) ?_; exact ⟨e16, s16, hs16, rfl, rfl, rfl, rfl, rfl, rfl⟩
        · skip
          refine oh_v (i := 7) (listed' := #[tt,tt,tt,ff,tt,tt,tt,tt,ff,ff]) rfl rfl rfl (by first | exact o_load p60 rfl (by repeat (first | with_reducible exact has_here | with_reducible exact has_pt | apply has_left)) rfl | exact o_loadC p60 rfl (by assumption)) ?_; refine th_one (i := 3) (by kernel_rfl) ?_; refine oh_v (i := 3) (listed' := #[tt,tt,tt,tt,tt,tt,tt,tt,ff,ff]) rfl rfl rfl (o_load p31 rfl (by repeat (first | assumption | apply has_left)) rfl) ?_; refine th_one (i := 8) (by kernel_rfl) ?_; refine oh_c (i := 8) (listed' := #[tt,tt,tt,tt,tt,tt,tt,tt,tt,ff]) rfl rfl rfl (o_call bd47 rfl (Store_c (s := s) (p := (p : Nat)) (xs := xs) (hroom := fun _ => hroom))) ?_; rintro _ _ ⟨e16, s16, hs16, rfl, rfl⟩; refine ⟨by repeat (first | with_reducible exact dr_refl | apply dr_keep | apply dr_drop), ?_⟩; refine th_take (i := 9) (listed' := #[tt,tt,tt,tt,tt,tt,tt,tt,tt,tt]) rfl (by kernel_rfl) (by kernel_rfl) (by kernel_rfl) rfl rfl (o_assign (by conv => lhs; whnf)) ?_; refine th_done (by kernel_rfl) ?_; exact ⟨e16, s16, hs16, rfl, rfl, rfl, rfl, rfl, rfl⟩
      · skip
        refine oh_v (i := 7) (listed' := #[ff,ff,ff,ff,tt,tt,tt,tt,ff,ff]) rfl rfl rfl (by first | exact o_load p60 rfl (by repeat (first | with_reducible exact has_here | with_reducible exact has_pt | apply has_left)) rfl | exact o_loadC p60 rfl (by assumption)) ?_; refine th_one (i := 0) (by kernel_rfl) ?_; refine oh_v (i := 0) (listed' := #[tt,ff,ff,ff,tt,tt,tt,tt,ff,ff]) rfl rfl rfl (by first | exact o_load p37 rfl (by repeat (first | with_reducible exact has_here | with_reducible exact has_pt | apply has_left)) rfl | exact o_loadC p37 rfl (by assumption)) ?_; refine th_take (i := 1) (listed' := #[tt,tt,ff,ff,tt,tt,tt,tt,ff,ff]) rfl (by kernel_rfl) (by kernel_rfl) (by kernel_rfl) rfl rfl (o_nilCheck rfl) ?_; refine th_take (i := 2) (listed' := #[tt,tt,tt,ff,tt,tt,tt,tt,ff,ff]) rfl (by kernel_rfl) (by kernel_rfl) (by kernel_rfl) rfl rfl (o_fieldAddr (o := 0) Try.underlying52 rfl rfl sz31 rfl) ?_; refine th_one (i := 3) (by kernel_rfl) ?_; refine oh_v (i := 3) (listed' := #[tt,tt,tt,tt,tt,tt,tt,tt,ff,ff]) rfl rfl rfl (o_load p31 rfl (by repeat (first | assumption | apply has_left)) rfl) ?_; refine th_one (i := 8) (by kernel_rfl) ?_; refine oh_c (i := 8) (listed' := #[tt,tt,tt,tt,tt,tt,tt,tt,tt,ff]) rfl rfl rfl (o_call bd47 rfl (Store_c (s := s) (p := (p : Nat)) (xs := xs) (hroom := fun _ => hroom))) ?_; rintro _ _ ⟨e16, s16, hs16, rfl, rfl⟩; refine ⟨by repeat (first | with_reducible exact dr_refl | apply dr_keep | apply dr_drop), ?_⟩
        refine th_take (i := 9) (listed' := #[tt,tt,tt,tt,tt,tt,tt,tt,tt,tt]) rfl (by kernel_rfl) (by kernel_rfl) (by kernel_rfl) rfl rfl (o_assign (by conv => lhs; whnf)) ?_; refine th_done (by kernel_rfl) ?_; exact ⟨e16, s16, hs16, rfl, rfl, rfl, rfl, rfl, rfl⟩
    · skip
      refine oh_v (i := 7) (listed' := #[ff,ff,ff,ff,tt,ff,tt,tt,ff,ff]) rfl rfl rfl (by first | exact o_load p60 rfl (by repeat (first | with_reducible exact has_here | with_reducible exact has_pt | apply has_left)) rfl | exact o_loadC p60 rfl (by assumption)) ?_; refine th_two (i := 0) (j := 5) (by kernel_rfl) ?_ ?_
      · skip
        refine oh_v (i := 0) (listed' := #[tt,ff,ff,ff,tt,ff,tt,tt,ff,ff]) rfl rfl rfl (by first | exact o_load p37 rfl (by repeat (first | with_reducible exact has_here | with_reducible exact has_pt | apply has_left)) rfl | exact o_loadC p37 rfl (by assumption)) ?_; refine th_take (i := 1) (listed' := #[tt,tt,ff,ff,tt,ff,tt,tt,ff,ff]) rfl (by kernel_rfl) (by kernel_rfl) (by kernel_rfl) rfl rfl (o_nilCheck rfl) ?_; refine th_take (i := 2) (listed' := #[tt,tt,tt,ff,tt,ff,tt,tt,ff,ff]) rfl (by kernel_rfl) (by kernel_rfl) (by kernel_rfl) rfl rfl (o_fieldAddr (o := 0) Try.underlying52 rfl rfl sz31 rfl) ?_; refine th_two (i := 3) (j := 5) (by kernel_rfl) ?_ ?_
        · skip
          refine oh_v (i := 3) (listed' := #[tt,tt,tt,tt,tt,ff,tt,tt,ff,ff]) rfl rfl rfl (o_load p31 rfl (by repeat (first | assumption | apply has_left)) rfl) ?_; refine th_one (i := 5) (by kernel_rfl) ?_; refine oh_v (i := 5) (listed' := #[tt,tt,tt,tt,tt,tt,tt,tt,ff,ff]) rfl rfl rfl (by first | exact o_load p3 rfl (by repeat (first | with_reducible exact has_here | with_reducible exact has_pt | apply has_left)) rfl | exact o_loadC p3 rfl (by assumption)) ?_; refine th_one (i := 8) (by kernel_rfl) ?_; refine oh_c (i := 8) (listed' := #[tt,tt,tt,tt,tt,tt,tt,tt,tt,ff]) rfl rfl rfl (o_call bd47 rfl (Store_c (s := s) (p := (p : Nat)) (xs := xs) (hroom := fun _ => hroom))) ?_; rintro _ _ ⟨e16, s16, hs16, rfl, rfl⟩; refine ⟨by repeat (first | with_reducible exact dr_refl | apply dr_keep | apply dr_drop), ?_⟩; refine th_take (i := 9) (listed' := #[tt,tt,tt,tt,tt,tt,tt,tt,tt,tt]) rfl (by kernel_rfl) (by kernel_rfl) (by kernel_rfl) rfl rfl (o_assign (by conv => lhs; whnf)) ?_; refine th_done (by kernel_rfl) ?_; exact ⟨e16, s16, hs16, rfl, rfl, rfl, rfl, rfl, rfl⟩
        · skip
          refine oh_v (i := 5) (listed' := #[tt,tt,tt,ff,tt,tt,tt,tt,ff,ff]) rfl rfl rfl (by first | exact o_load p3 rfl (by repeat (first | with_reducible exact has_here | with_reducible exact has_pt | apply has_left)) rfl | exact o_loadC p3 rfl (by assumption)) ?_; refine th_one (i := 3) (by kernel_rfl) ?_; refine oh_v (i := 3) (listed' := #[tt,tt,tt,tt,tt,tt,tt,tt,ff,ff]) rfl rfl rfl (o_load p31 rfl (by repeat (first | assumption | apply has_left)) rfl) ?_; refine th_one (i := 8) (by kernel_rfl) ?_; refine oh_c (i := 8) (listed' := #[tt,tt,tt,tt,tt,tt,tt,tt,tt,ff]) rfl rfl rfl (o_call bd47 rfl (Store_c (s := s) (p := (p : Nat)) (xs := xs) (hroom := fun _ => hroom))) ?_; rintro _ _ ⟨e16, s16, hs16, rfl, rfl⟩; refine ⟨by repeat (first | with_reducible exact dr_refl | apply dr_keep | apply dr_drop), ?_⟩; refine th_take (i := 9) (listed' := #[tt,tt,tt,tt,tt,tt,tt,tt,tt,tt]) rfl (by kernel_rfl) (by kernel_rfl) (by kernel_rfl) rfl rfl (o_assign (by conv => lhs; whnf)) ?_; refine th_done (by kernel_rfl) ?_; exact ⟨e16, s16, hs16, rfl, rfl, rfl, rfl, rfl, rfl⟩
      · skip
        refine oh_v (i := 5) (listed' := #[ff,ff,ff,ff,tt,tt,tt,tt,ff,ff]) rfl rfl rfl (by first | exact o_load p3 rfl (by repeat (first | with_reducible exact has_here | with_reducible exact has_pt | apply has_left)) rfl | exact o_loadC p3 rfl (by assumption)) ?_; refine th_one (i := 0) (by kernel_rfl) ?_; refine oh_v (i := 0) (listed' := #[tt,ff,ff,ff,tt,tt,tt,tt,ff,ff]) rfl rfl rfl (by first | exact o_load p37 rfl (by repeat (first | with_reducible exact has_here | with_reducible exact has_pt | apply has_left)) rfl | exact o_loadC p37 rfl (by assumption)) ?_; refine th_take (i := 1) (listed' := #[tt,tt,ff,ff,tt,tt,tt,tt,ff,ff]) rfl (by kernel_rfl) (by kernel_rfl) (by kernel_rfl) rfl rfl (o_nilCheck rfl) ?_; refine th_take (i := 2) (listed' := #[tt,tt,tt,ff,tt,tt,tt,tt,ff,ff]) rfl (by kernel_rfl) (by kernel_rfl) (by kernel_rfl) rfl rfl (o_fieldAddr (o := 0) Try.underlying52 rfl rfl sz31 rfl) ?_; refine th_one (i := 3) (by kernel_rfl) ?_; refine oh_v (i := 3) (listed' := #[tt,tt,tt,tt,tt,tt,tt,tt,ff,ff]) rfl rfl rfl (o_load p31 rfl (by repeat (first | assumption | apply has_left)) rfl) ?_; refine th_one (i := 8) (by kernel_rfl) ?_; refine oh_c (i := 8) (listed' := #[tt,tt,tt,tt,tt,tt,tt,tt,tt,ff]) rfl rfl rfl (o_call bd47 rfl (Store_c (s := s) (p := (p : Nat)) (xs := xs) (hroom := fun _ => hroom))) ?_; rintro _ _ ⟨e16, s16, hs16, rfl, rfl⟩; refine ⟨by repeat (first | with_reducible exact dr_refl | apply dr_keep | apply dr_drop), ?_⟩
        refine th_take (i := 9) (listed' := #[tt,tt,tt,tt,tt,tt,tt,tt,tt,tt]) rfl (by kernel_rfl) (by kernel_rfl) (by kernel_rfl) rfl rfl (o_assign (by conv => lhs; whnf)) ?_; refine th_done (by kernel_rfl) ?_; exact ⟨e16, s16, hs16, rfl, rfl, rfl, rfl, rfl, rfl⟩
  · intro ρ B hI
    obtain ⟨e16, s16, hst0, hE5, hE37, hE2, hE3, hE4, rfl⟩ := hI
    refine q_then_n ?_; refine tc_env (d := 5) hE5 ?_; refine tc_env (d := 37) hE37 ?_; refine tc_env (d := 2) hE2 ?_; refine tc_env (d := 3) hE3 ?_; refine tc_env (d := 4) hE4 ?_
    clear hE5 hE37 hE2 hE3 hE4
    refine tc_seq ?_
    have hs16 := hst0
    refine tc_reg ?_; refine tlm ?_; refine tl_v rfl (o_nei rfl rfl) ?_; refine tl_nil ?_; refine q_then_n ?_; refine tc_cond rfl (fun h => ?_) (fun h => ?_)
    · have he0 : e16 ≠ 0 := by simpa using h
      refine tc_seq ?_; refine tc_reg ?_; refine tlm ?_; refine tl_u rfl (o_stU rfl (by repeat (first | with_reducible exact upd_here | with_reducible exact upd_pt | apply upd_left)) sz25 rfl rfl (by first | decide | simp | omega) rfl) ?_; refine tl_nil ?_; refine q_then_n ?_; refine tc_ret ?_; refine q_then_r ?_; exact ⟨[], _, rfl, fun _ _ h => mk0 h, .int .i64 e16, C (Dev d s16), resA1 rfl (rv_cell1 p25 rfl (by repeat (first | with_reducible exact has_here | with_reducible exact has_pt | apply has_left)) rfl), fun _ _ h => by rw [hC]; exact (Dr.sat (A' := R * Dev d s16) (by repeat (first | with_reducible exact dr_refl | apply dr_keep | apply dr_drop))) _ _ h, e16, s16, by unfold backS; simp only []; rw [hs16, if_pos he0], rfl, rfl⟩
    · obtain rfl : e16 = 0 := by simpa using h
      have hsl := sto_len (p : Nat) xs s
      rw [hs16] at hsl
      simp only at hsl
      refine tc_skip ?_; refine q_then_n ?_; refine tc_seq ?_; refine tc_seq ?_; refine tc_reg ?_; refine tl_v rfl (o_fieldAddr (o := 0) Try.underlying70 rfl rfl sz3 rfl) ?_; refine tl_v rfl (by first | exact o_load p3 rfl (by repeat (first | with_reducible exact has_here | with_reducible exact has_pt | apply has_left)) rfl | exact o_loadC p3 rfl (by assumption)) ?_; refine tl_v rfl (o_fieldAddr (o := 1) Try.underlying70 rfl rfl sz60 rfl) ?_; refine tl_v rfl (by first | exact o_load p60 rfl (by repeat (first | with_reducible exact has_here | with_reducible exact has_pt | apply has_left)) rfl | exact o_loadC p60 rfl (by assumption)) ?_; refine tl_v rfl (o_len Try.underlying60 rfl) ?_; refine tl_c rfl (o_call bd85 rfl (Lines_c)) ?_; rintro _ _ ⟨w1, w2, rfl, rfl⟩; refine tl_nil ?_; refine q_then_n ?_; refine tc_block ?_; refine tc_rangeI (K := (pt w1 (cl [.int .i64 (p : Int)] 3) * pt w2 (cl [.int .i64 (m : Int)] 3))) (N := ((p + m - 1) / 64 - p / 64 + 1)) (A0 := R * Dev d s16 * pt b2 (cl [.pointer (some ⟨bl, 0, none⟩)] 37) * pt b3 (cl [.int .i64 (p : Nat), .slice a m c] 70) * pt b4 (cl [.int .i64 0] 25)) (fun i S => ∃ (s1 : DevS), (flL (((p + m - 1) / 64 - p / 64 + 1) - i) (p / 64 + i) s1 = flL ((p + m - 1) / 64 - p / 64 + 1) (p / 64) s16) ∧ (s1.ls.length = s.ls.length) ∧ S = R * Dev d s1 * pt b2 (cl [.pointer (some ⟨bl, 0, none⟩)] 37) * pt b3 (cl [.int .i64 (p : Nat), .slice a m c] 70) * pt b4 (cl [.int .i64 0] 25)) (fun j S => ∃ (e : Int) (s1 : DevS), j = .ret ∧ (flL ((p + m - 1) / 64 - p / 64 + 1) (p / 64) s16 = (e, s1)) ∧ S = R * Dev d s1 * pt b2 (cl [.pointer (some ⟨bl, 0, none⟩)] 37) * pt b3 (cl [.int .i64 (p : Nat), .slice a m c] 70) * pt b4 (cl [.int .i64 e] 25)) rfl bd89 (Lines_it (N := ((p + m - 1) / 64 - p / 64 + 1)) h1 (by omega) rfl) (fun _ => rfl) rfl (Dr.sat (by repeat (first | with_reducible exact dr_refl | apply dr_keep | apply dr_drop))) (⟨s16, rfl, hsl, rfl⟩) ?_ ?_ ?_
      · intro l F i S hi hI
        obtain ⟨s1, hi0, hi1, rfl⟩ := hI
        refine tc_eq (by simp only [← star_assoc]; rfl) ?_; refine tc_env (d := 26) (v := .int .i64 ((p / 64 + i : Nat) : Int)) (rfl) ?_; refine tc_reg ?_; refine tla ?_; refine tl_nil ?_; refine ⟨R * Dev d s1 * pt b2 (cl [.pointer (some ⟨bl, 0, none⟩)] 37) * pt b3 (cl [.int .i64 (p : Nat), .slice a m c] 70) * pt b4 (cl [.int .i64 0] 25), fun g w h => by simp only [← star_assoc]; exact Dr.sat (by repeat (first | with_reducible exact dr_refl | apply dr_keep | apply dr_drop)) g w h, fun F => ?_⟩; refine tc_eq (by simp only [← star_assoc]; rfl) ?_; refine tc_block ?_; refine tc_seq ?_; refine tc_reg ?_; refine tl_v rfl (by first | exact o_load p37 rfl (by repeat (first | with_reducible exact has_here | with_reducible exact has_pt | apply has_left)) rfl | exact o_loadC p37 rfl (by assumption)) ?_; refine tl_v rfl (o_nilCheck rfl) ?_; refine tl_v rfl (o_fieldAddr (o := 0) Try.underlying52 rfl rfl sz31 rfl) ?_; refine tl_v rfl (o_load p31 rfl (by repeat (first | assumption | exact has_rt (by assumption) | apply has_left)) rfl) ?_; refine tlm ?_; refine tl_v rfl (by first | exact o_mulI rfl rfl (by omega) | exact o_mul rfl rfl) ?_; refine tl_env (d := 32) (v := .int .i64 (((p / 64 + i) * 64 : Nat) : Int)) (rfl) ?_; refine tl_c rfl (o_call bd64 rfl (Flush_c (s := s1) (p := (((p / 64 + i) * 64 : Nat) : Int)))) ?_; rintro _ _ ⟨e33, s33, hs33, rfl, rfl⟩; refine tla ?_; refine tl_nil ?_
        refine q_then_n ?_; refine tc_seq ?_; refine tc_reg ?_; refine tlm ?_; refine tl_v rfl (o_nei rfl rfl) ?_; refine tl_nil ?_; refine q_then_n ?_; refine tc_cond rfl (fun h => ?_) (fun h => ?_)
        · have h : e33 ≠ 0 := by simpa using h
          refine tc_seq ?_; refine tc_reg ?_; refine tlm ?_; refine tl_u rfl (o_stU rfl (by repeat (first | with_reducible exact upd_here | with_reducible exact upd_pt | apply upd_left)) sz25 rfl rfl (by first | decide | simp | omega) rfl) ?_; refine tl_nil ?_; refine q_then_n ?_; refine tc_ret ?_; refine q_block_r ?_; exact ⟨R * Dev d (s33) * pt b2 (cl [.pointer (some ⟨bl, 0, none⟩)] 37) * pt b3 (cl [.int .i64 (p : Nat), .slice a m c] 70) * pt b4 (cl [.int .i64 (e33)] 25), fun g w h => by simp only [← star_assoc]; exact Dr.sat (by repeat (first | with_reducible exact dr_refl | apply dr_keep | apply dr_drop)) g w h, e33, s33, rfl, by rw [← hi0]; exact flL_e hi hs33 h, rfl⟩
        · obtain rfl : e33 = 0 := by simpa using h
          refine tc_skip ?_; refine q_block_n ?_; exact ⟨R * Dev d (s33) * pt b2 (cl [.pointer (some ⟨bl, 0, none⟩)] 37) * pt b3 (cl [.int .i64 (p : Nat), .slice a m c] 70) * pt b4 (cl [.int .i64 0] 25), fun g w h => by simp only [← star_assoc]; exact Dr.sat (by repeat (first | with_reducible exact dr_refl | apply dr_keep | apply dr_drop)) g w h, s33, by rw [← hi0]; exact (flL_o hi hs33).symm, by have := fl1_len (((p / 64 + i) * 64 : Nat) : Int) s1; rw [hs33] at this; exact this.trans hi1, rfl⟩
      · intro r S hI
        obtain ⟨s1, hi0, hi1, rfl⟩ := hI
        refine q_block_n (q_then_n ?_); refine tc_seq ?_; refine tc_reg ?_; refine tl_u rfl (o_stU rfl (by repeat (first | with_reducible exact upd_here | with_reducible exact upd_pt | apply upd_left)) sz25 rfl rfl (by first | decide | simp | omega) rfl) ?_; refine tl_nil ?_; refine q_then_n ?_; refine tc_ret ?_; exact ⟨[r], _, rfl, fun _ _ h => mk1 h, .int .i64 0, C (Dev d s1), resA1 rfl (rv_cell1 p25 rfl (by repeat (first | with_reducible exact has_here | with_reducible exact has_pt | apply has_left)) rfl), fun _ _ h => by rw [hC]; exact (Dr.sat (A' := R * Dev d s1) (by repeat (first | with_reducible exact dr_refl | apply dr_keep | apply dr_drop))) _ _ h, 0, s1, by unfold backS flushX; simp only []; rw [hs16, if_neg (by simp)]; simp only [hm]; rw [← hi0, Nat.sub_self]; rfl, rfl, rfl⟩
      · intro r j S hX
        obtain ⟨e, s1, rfl, hx0, rfl⟩ := hX
        refine jmp_r ?_; refine q_block_r (q_then_r ?_); exact ⟨[r], _, rfl, fun _ _ h => mk1 h, .int .i64 e, C (Dev d s1), resA1 rfl (rv_cell1 p25 rfl (by repeat (first | with_reducible exact has_here | with_reducible exact has_pt | apply has_left)) rfl), fun _ _ h => by rw [hC]; exact (Dr.sat (A' := R * Dev d s1) (by repeat (first | with_reducible exact dr_refl | apply dr_keep | apply dr_drop))) _ _ h, e, s1, by unfold backS flushX; simp only []; rw [hs16, if_neg (by simp)]; simp only [hm]; exact hx0, rfl, rfl⟩
end Rg
end Go.Vl

set_option linter.unusedVariables false
set_option linter.unusedSimpArgs false
namespace Go.Vl
open Go Go.Proofs
def rvl (L : List (Nat × List Nat)) (vs : List Value) (k : Nat) : Value := .agg #[.int .i64 ((L.getD k (0, [])).1 : Nat), vs.getD k (.slice none 0 0)]
theorem kcl_at : ∀ {L : List (Nat × List Nat)} {vs : List Value} {k : Nat}, vs.length = L.length → k < L.length → ((kcl L vs).drop (k * 2)).take 2 = [.int .i64 ((L.getD k (0, [])).1 : Nat), vs.getD k (.slice none 0 0)]
  | [], [], _, _, h => by simp at h
  | x :: l, v :: vs, 0, _, _ => rfl
  | x :: l, v :: vs, k + 1, h, hk => by
    rw [show (k + 1) * 2 = k * 2 + 1 + 1 by omega]
    show ((kcl l vs).drop (k * 2)).take 2 = _
    rw [kcl_at (by simpa using h) (by simpa using hk)]; rfl
attribute [local irreducible] crk crL crc Sl pt ro Dev imgS recS readS recsF rdW rdO rkT Parts
namespace Rg
theorem bwd1_f {a : Option Addr} {c l N q1 : Nat} {L : List (Nat × List Nat)} {vs : List Value} {J : Nat → SP → Prop} {X : SP → Prop} {S0 : SP} (hL : L.length = N) (hv : vs.length = N) (h2 : N ≤ 1099511627776) (h0 : J 0 S0) (hY : ∀ F i S, i < N → J i S → Yd Try.prog l #[.int .i64 ((N - 1 - i : Nat) : Int), rvl L vs (N - 1 - i)] (F * S) (fun v B => ∃ (b : Bool) (S' : SP), v = .bool b ∧ (b = true → J (i + 1) S') ∧ (b = false → X S') ∧ B = F * S')) :
    Fn Try.prog 84 #[.func (.yield l) #[] #[], .pointer (some ⟨q1, 0, none⟩)] (S0 * pt q1 (cl [.slice a N c] 63) * Sl 2 (.slice a N c) N (kcl L vs)) (fun r B => r = .tuple #[] ∧ ((∃ S, J N S ∧ B = S * pt q1 (cl [.slice a N c] 63) * Sl 2 (.slice a N c) N (kcl L vs)) ∨ ∃ S, X S ∧ B = S * pt q1 (cl [.slice a N c] 63) * Sl 2 (.slice a N c) N (kcl L vs))) := by
  refine fn_enterW (args := [.func (.yield l) #[] #[], .pointer (some ⟨q1, 0, none⟩)]) Try.func84 rfl Try.ntmps84 (by simp) ?_; refine tc_seq ?_; refine tc_reg ?_; refine tl_v rfl (by first | exact o_load p63 rfl (by repeat (first | with_reducible exact has_here | with_reducible exact has_pt | apply has_left)) rfl | exact o_loadC p63 rfl (by assumption)) ?_; refine tl_v rfl (o_len Try.underlying63 rfl) ?_; refine tl_v rfl (o_subI rfl rfl (by omega)) ?_; refine tl_env (d := 6) (v := .int .i64 ((N : Nat) - 1 - ((0 : Nat) : Int))) (by show Value.int .i64 ((N : Int) - 1) = _; congr 1; omega) ?_; refine tla ?_; refine tl_nil ?_; refine q_then_n ?_; refine tc_block ?_; refine tc_loop (fun kk ρ BB => ∃ (k : Nat) (S : SP), (k ≤ N) ∧ (J k S) ∧ kk = N - k ∧ ρ 3 = .int .i64 ((N : Nat) - 1 - (k : Nat)) ∧ ρ 19 = undef ∧ ρ 0 = .func (.yield l) #[] #[] ∧ ρ 1 = .pointer (some ⟨q1, 0, none⟩) ∧ BB = S * pt q1 (cl [.slice a N c] 63) * Sl 2 (.slice a N c) N (kcl L vs)) (m := N - (0)) ?_ ?_
  · exact ⟨0, S0, by omega, h0, rfl, rfl, rfl, rfl, rfl, rfl⟩
  · intro k ρ B hI
    obtain ⟨k, S, hp0, hp1, hkk1, hE3, hE19, hE0, hE1, rfl⟩ := hI
    refine tc_env (d := 3) hE3 ?_; refine tc_env (d := 19) hE19 ?_; refine tc_env (d := 0) hE0 ?_; refine tc_env (d := 1) hE1 ?_
    clear hE3 hE19 hE0 hE1
    refine tc_seq ?_; refine tc_seq ?_; refine tc_reg ?_; refine tlm ?_; refine tl_v rfl (o_geq rfl rfl) ?_; refine tl_nil ?_; refine q_then_n ?_; refine tc_cond rfl (fun h => ?_) (fun h => ?_)
    · have hk : k < N := by first | omega | (simp at h; omega)
      refine tc_skip ?_; refine q_then_n ?_; refine tc_seq ?_; refine tc_block ?_; refine tc_seq ?_; refine tc_reg ?_; refine tlm ?_; refine tlm ?_; refine tl_env (d := 12) (v := .int .i64 ((N - 1 - k : Nat) : Int)) (by show Value.int .i64 ((N : Int) - 1 - (k : Int)) = _; congr 1; omega) ?_; refine tl_v rfl (by first | exact o_load p63 rfl (by repeat (first | with_reducible exact has_here | with_reducible exact has_pt | apply has_left)) rfl | exact o_loadC p63 rfl (by assumption)) ?_; refine tlm ?_; refine tl_env (d := 14) (v := .int .i64 ((N - 1 - k : Nat) : Int)) (by show Value.int .i64 ((N : Int) - 1 - (k : Int)) = _; congr 1; omega) ?_; refine tl_v rfl (o_ixP (a := a) Try.underlying63 sz70 rfl rfl (by omega) (nn_sl (by decide))) ?_; refine tl_v rfl (o_ldPN (a := a) (xs := kcl L vs) (vs := [.int .i64 ((L.getD (N - 1 - k) (0, [])).1 : Nat), vs.getD (N - 1 - k) (.slice none 0 0)]) a70 sz70 rfl rs_sl (kcl_at (by omega) (by omega)) rfl (by decide)) ?_; refine tl_y rfl rfl rfl (yd_b (F := (pt q1 (cl [.slice a N c] 63) * Sl 2 (.slice a N c) N (kcl L vs))) (G := fun S' => S' * pt q1 (cl [.slice a N c] 63) * Sl 2 (.slice a N c) N (kcl L vs)) (hY _ k S (by omega) hp1) (by ac_rfl) (fun S' => by ac_rfl)) ?_; rintro _ _ ⟨b17, S2, rfl, hT, hF, rfl⟩; refine tl_v rfl (o_not rfl) ?_; refine tl_nil ?_; refine q_then_n ?_; refine tc_cond rfl (fun h => ?_) (fun h => ?_)
      · have hb : b17 = false := by simpa using h
        subst hb
        refine tc_ret ?_; refine q_block_r (q_then_r (q_then_r (q_block_r ?_))); exact ⟨[], _, rfl, fun _ _ h => mk0 h, .tuple #[], S2 * pt q1 (cl [.slice a N c] 63) * Sl 2 (.slice a N c) N (kcl L vs), res0 rfl, fun _ _ h => h, rfl, .inr ⟨S2, hF rfl, rfl⟩⟩
      · have hb : b17 = true := by simpa using h
        subst hb
        refine tc_skip ?_; refine q_block_n (q_then_n ?_); refine tc_reg ?_; refine tlm ?_; refine tl_v rfl (o_subI rfl rfl (by omega)) ?_; refine tl_env (d := 10) (v := .int .i64 ((N : Nat) - 1 - ((k + 1 : Nat) : Int))) (by show Value.int .i64 ((N : Int) - 1 - (k : Int) - 1) = _; congr 1; omega) ?_; refine tla ?_; refine tl_nil ?_; refine q_then_n ?_; exact ⟨_, by omega, k + 1, _, by omega, hT rfl, rfl, rfl, rfl, rfl, rfl, rfl⟩
    · have hk : ¬ k < N := by first | omega | (simp at h; omega)
      refine tc_exit ?_; refine q_then_e (q_then_e (q_block_x ?_))
      obtain rfl : N = k := by omega
      exact ⟨[], _, rfl, fun _ _ h => mk0 h, .tuple #[], S * pt q1 (cl [.slice a N c] 63) * Sl 2 (.slice a N c) N (kcl L vs), res0 rfl, fun _ _ h => h, rfl, .inl ⟨S, hp1, rfl⟩⟩
end Rg
theorem bwd_it {a : Option Addr} {c N q1 : Nat} {L : List (Nat × List Nat)} {vs : List Value} (hL : L.length = N) (hv : vs.length = N) (h2 : N ≤ 1099511627776) :
    Rg.It Try.prog 84 [] [.pointer (some ⟨q1, 0, none⟩)] (pt q1 (cl [.slice a N c] 63) * Sl 2 (.slice a N c) N (kcl L vs)) N (fun i => [.int .i64 ((N - 1 - i : Nat) : Int), rvl L vs (N - 1 - i)]) := fun l J X S0 h0 hY => by
  have hk : ∀ S : SP, S * (pt q1 (cl [.slice a N c] 63) * Sl 2 (.slice a N c) N (kcl L vs)) = S * pt q1 (cl [.slice a N c] 63) * Sl 2 (.slice a N c) N (kcl L vs) := fun S => (star_assoc _ _ _).symm
  rw [hk S0]
  refine (Rg.bwd1_f (J := J) (X := X) hL hv h2 h0 hY).mono ?_; rintro v B ⟨rfl, ⟨S, hS, rfl⟩ | ⟨S, hS, rfl⟩⟩
  · exact ⟨rfl, .inl ⟨S, hS, (hk S).symm⟩⟩
  · exact ⟨rfl, .inr ⟨S, hS, (hk S).symm⟩⟩
theorem bwd_c {A : SP} {a : Option Addr} {c N : Nat} :
    Fn Try.prog 66 #[.slice a N c] (A) (fun r B => ∃ q1, r = .func (.func 84) #[] #[.pointer (some ⟨q1, 0, none⟩)] ∧ B = A * pt q1 (cl [.slice a N c] 63)) := by
  refine fn_enterW (args := [.slice a N c]) Try.func66 rfl Try.ntmps66 (by simp) ?_; refine sr ?_; refine tl_x rfl (o_box rfl rfl) ?_; rintro _ _ ⟨b1, rfl, rfl⟩; refine tla ?_; refine nq ?_; refine sr ?_; refine tv (o_makeFunc rfl rfl) ?_; refine tla ?_; refine nq ?_; refine tc_ret ?_; exact ⟨_, _, res1 rfl rfl, fun _ _ h => h, b1, rfl, rfl⟩
end Go.Vl

set_option linter.unusedVariables false
set_option linter.unusedSimpArgs false
namespace Go.Vl
open Go Go.Proofs
section
variable {at_ sz : Nat} {s s1 s2 s3 : DevS} {L : List (Nat × List Nat)} {e : Int}
theorem roll_no (h : recordsS at_ sz s = (L, e)) (h2 : e ≠ 0 ∨ L = []) : rollS at_ sz s = ((0, e), s) := by unfold rollS; rw [h, if_pos h2]
theorem roll_b (h : recordsS at_ sz s = (L, 0)) (h2 : L ≠ []) (h3 : backF L.reverse s = (e, s2)) (he : e ≠ 0) : rollS at_ sz s = ((0, e), s2) := by
  unfold rollS; rw [h, if_neg (by simp [h2])]; simp only []; rw [h3, if_pos he]
theorem roll_f (h : recordsS at_ sz s = (L, 0)) (h2 : L ≠ []) (h3 : backF L.reverse s = (0, s1)) (h4 : fe s1 = (e, s2)) (he : e ≠ 0) : rollS at_ sz s = ((0, e), s2) := by
  unfold rollS; rw [h, if_neg (by simp [h2])]; simp only []; rw [h3, if_neg (by simp)]; simp only []; rw [h4, if_pos he]
theorem roll_p (h : recordsS at_ sz s = (L, 0)) (h2 : L ≠ []) (h3 : backF L.reverse s = (0, s1)) (h4 : fe s1 = (0, s2)) (h5 : pubP (at_ : Nat) 0 s2 = (e, s3)) (he : e ≠ 0) : rollS at_ sz s = ((0, e), s3) := by
  unfold rollS; rw [h, if_neg (by simp [h2])]; simp only []; rw [h3, if_neg (by simp)]; simp only []; rw [h4, if_neg (by simp)]; simp only []; rw [h5, if_pos he]
theorem roll_o (h : recordsS at_ sz s = (L, 0)) (h2 : L ≠ []) (h3 : backF L.reverse s = (0, s1)) (h4 : fe s1 = (0, s2)) (h5 : pubP (at_ : Nat) 0 s2 = (0, s3)) : rollS at_ sz s = ((((L.length : Nat) : Int), 0), s3) := by
  unfold rollS; rw [h, if_neg (by simp [h2])]; simp only []; rw [h3, if_neg (by simp)]; simp only []; rw [h4, if_neg (by simp)]; simp only []; rw [h5, if_neg (by simp)]
end
def sumL (L : List (Nat × List Nat)) : Nat := (L.map fun x => x.2.length).sum
theorem sumL_cons (x : Nat × List Nat) (L : List (Nat × List Nat)) : sumL (x :: L) = x.2.length + sumL L := by unfold sumL; rw [List.map_cons, List.sum_cons]
theorem sumL_rev (L : List (Nat × List Nat)) : sumL L.reverse = sumL L := by unfold sumL; rw [List.map_reverse, List.sum_reverse]
/-- What a record that was read is like. -/
def RecOk (n at_ sz : Nat) (x : Nat × List Nat) : Prop := mayX n at_ sz ((x.1 : Int), ((x.2.length : Nat) : Int)) = true ∧ ∀ b ∈ x.2, b < 256
theorem read_ok {n at_ sz p : Nat} {room : List Nat} {x : Nat × List Nat} {t : Nat} (hb : ∀ b ∈ room, b < 256) (h : readS n at_ sz room p = some (x, t)) : RecOk n at_ sz x ∧ p + t ≤ room.length ∧ 24 + x.2.length ≤ t := by
  unfold readS at h
  split at h; cases h
  split at h; cases h
  rename_i h2
  split at h; cases h
  rename_i h3
  split at h; cases h
  simp only [Option.some.injEq, Prod.mk.injEq] at h
  obtain ⟨rfl, rfl⟩ := h
  have hu := up8_le (nm ((room.drop (p + 8)).take 8))
  have hl : ((room.drop (p + 24)).take (nm ((room.drop (p + 8)).take 8))).length = nm ((room.drop (p + 8)).take 8) := by rw [List.length_take, List.length_drop]; omega
  refine ⟨⟨?_, fun b hb' => hb b (List.mem_of_mem_drop (List.mem_of_mem_take hb'))⟩, by omega, by rw [hl]; omega⟩
  show mayX n at_ sz (_, ((List.length _ : Nat) : Int)) = true
  rw [hl]; simpa using h2
theorem recsF_ok {n at_ sz : Nat} {room : List Nat} (hb : ∀ b ∈ room, b < 256) : ∀ {k p : Nat} {L : List (Nat × List Nat)}, p ≤ room.length → recsF n at_ sz room k p = (L, 0) → (∀ x ∈ L, RecOk n at_ sz x) ∧ sumL L + 24 * L.length + p ≤ room.length
  | 0, p, L, hp, h => by
    simp only [recsF, Prod.mk.injEq] at h
    obtain ⟨rfl, _⟩ := h
    exact ⟨by simp, by simp [sumL]; exact hp⟩
  | k + 1, p, L, hp, h => by
    have e : recsF n at_ sz room (k + 1) p = match readS n at_ sz room p with
      | none => ([], 110)
      | some (x, t) => if (recsF n at_ sz room k (p + t)).2 ≠ 0 then ([], 110) else (x :: (recsF n at_ sz room k (p + t)).1, 0) := rfl
    rw [e] at h
    cases hr : readS n at_ sz room p with
    | none => rw [hr] at h; simp at h
    | some y =>
      rw [hr] at h
      simp only at h
      obtain ⟨h1, h2, h3⟩ := read_ok hb (x := y.1) (t := y.2) hr
      by_cases h4 : (recsF n at_ sz room k (p + y.2)).2 ≠ 0
      · rw [if_pos h4] at h; simp at h
      · rw [if_neg h4] at h
        simp only [Prod.mk.injEq, and_true] at h
        obtain ⟨g1, g2⟩ := recsF_ok hb (L := (recsF n at_ sz room k (p + y.2)).1) h2 (Prod.ext rfl (by simp only; omega))
        subst h
        refine ⟨fun x hx => ?_, by rw [sumL_cons, List.length_cons]; omega⟩
        rcases List.mem_cons.1 hx with rfl | hx
        · exact h1
        · exact g1 x hx
theorem records_ok {at_ sz : Nat} {s : DevS} {L : List (Nat × List Nat)} (hw : WfD s) (hlw : LogW (s.ls.length * 64) at_ sz) (h : recordsS at_ sz s = (L, 0)) : (∀ x ∈ L, RecOk (s.ls.length * 64) at_ sz x) ∧ sumL L + 24 * L.length ≤ sz - 64 := by
  unfold recordsS at h
  split at h; cases h
  have hl : (roomS at_ sz s).length = sz - 64 := by
    have := imgS_len hw; have := hlw.top; have := hlw.s
    unfold roomS; rw [List.length_take, List.length_drop]; omega
  obtain ⟨h1, h2⟩ := recsF_ok (fun b hb => img_sub b hb) (Nat.zero_le _) h
  have hl2 : (((imgS s).drop (at_ + 64)).take (sz - 64)).length = sz - 64 := hl
  exact ⟨h1, by omega⟩
theorem backF_e {x : Nat × List Nat} {l : List (Nat × List Nat)} {s s2 : DevS} {e : Int} (h : backS x s = (e, s2)) (he : e ≠ 0) : backF (x :: l) s = (e, s2) := by
  show (if (backS x s).1 ≠ 0 then backS x s else _) = _
  rw [h, if_pos he]
theorem backF_o {x : Nat × List Nat} {l : List (Nat × List Nat)} {s s2 : DevS} (h : backS x s = (0, s2)) : backF (x :: l) s = backF l s2 := by
  show (if (backS x s).1 ≠ 0 then backS x s else backF l (backS x s).2) = _
  rw [h, if_neg (by simp)]
theorem rev_at {L : List (Nat × List Nat)} {i : Nat} (h : i < L.length) : L.reverse.drop i = L.getD (L.length - 1 - i) (0, []) :: L.reverse.drop (i + 1) := by
  have h' : i < L.reverse.length := by rw [List.length_reverse]; exact h
  rw [List.drop_eq_getElem_cons h', List.getElem_reverse, List.getD_eq_getElem?_getD, List.getElem?_eq_getElem (by omega)]; rfl
theorem parts_rs : ∀ {vs : List Value} {ls : List (List Nat)} {k : Nat} (_ : vs.length = ls.length) (h : k < ls.length) {b : Option Addr} {c : Nat}, vs.getD k (.slice none 0 0) = .slice b (ls[k]).length c → ∀ A : SP, Rs (A * Parts vs ls) b (bys ls[k])
  | v :: vs, x :: ls, 0, _, _, b, c, he, A => by
    have e : Parts (v :: vs) (x :: ls) = Parts vs ls * Sl 1 v x.length (bys x) := rfl
    have e2 : v = .slice b x.length c := he
    rw [e, e2, ← star_assoc]; exact rs_sl
  | v :: vs, x :: ls, k + 1, h, hk, b, c, he, A => by
    have e : Parts (v :: vs) (x :: ls) = Parts vs ls * Sl 1 v x.length (bys x) := rfl
    rw [e, ← star_assoc]
    exact (parts_rs (vs := vs) (ls := ls) (k := k) (by simpa using h) (by simpa using hk) he A).left
  | [], x :: ls, _, h, _, _, _, _, _ => by simp at h
  | _, [], _, _, h, _, _, _, _ => by simp at h
theorem parts_getD : ∀ {vs : List Value} {L : List (Nat × List Nat)} {X : SP} {g : Gh} {w : World}, vs.length = L.length → sat g w (X * Parts vs (L.map (·.2))) → ∀ k, k < L.length → ∃ b c, vs.getD k (.slice none 0 0) = .slice b (L.getD k (0, [])).2.length c ∧ (L.getD k (0, [])).2.length ≤ c
  | [], [], _, _, _, _, _ => fun k hk => by simp at hk
  | v :: vs, x :: L, X, g, w, hl, h => by
    have e : Parts (v :: vs) ((x :: L).map (·.2)) = Parts vs (L.map (·.2)) * Sl 1 v x.2.length (bys x.2) := rfl
    rw [e, ← star_assoc] at h
    intro k hk
    cases k with
    | zero =>
      obtain ⟨a, cap, h1, h2, _⟩ := sl_have h
      exact ⟨a, cap, h1, h2⟩
    | succ k => exact parts_getD (by simpa using hl) h.left k (by simpa using hk)
theorem parts_rsL {vs : List Value} {L : List (Nat × List Nat)} {k : Nat} (h : vs.length = L.length) (hk : k < L.length) {b : Option Addr} {c : Nat} (he : vs.getD k (.slice none 0 0) = .slice b (L.getD k (0, [])).2.length c) (A : SP) : Rs (A * Parts vs (L.map (·.2))) b (bys (L.getD k (0, [])).2) := by
  have e1 : L.getD k (0, []) = L[k] := by rw [List.getD_eq_getElem?_getD, List.getElem?_eq_getElem hk]; rfl
  have e2 : (L.map (·.2))[k]'(by rw [List.length_map]; exact hk) = L[k].2 := by rw [List.getElem_map]
  rw [e1] at he ⊢
  rw [← e2] at he ⊢
  exact parts_rs (by rw [List.length_map]; exact h) (by rw [List.length_map]; exact hk) he A
theorem getD_mem {L : List (Nat × List Nat)} {k : Nat} (hk : k < L.length) : L.getD k (0, []) ∈ L := by
  rw [List.getD_eq_getElem?_getD, List.getElem?_eq_getElem hk]; exact List.getElem_mem hk
theorem fl1_wf {p : Int} {s : DevS} (hw : WfD s) : WfD (fl1 p s).2 := by
  unfold fl1
  split
  · exact hw
  · exact doneS_wf (flushS_wf hw)
theorem sto_wf {p : Int} {b : List Nat} {s : DevS} (hw : WfD s) (hb : ∀ x ∈ b, x < 256) (hr : Room b.length s) : WfD (sto p b s).2 := by
  unfold sto
  split
  · exact hw
  · exact (storeF_room b.length (r := 0) rfl hw hb (fun l hl => by have := hr l hl; omega)).2
theorem flL_room : ∀ (k : Nat) {q r : Nat} {s : DevS}, WfD s → Room r s → Room r (flL k q s).2
  | 0, _, _, _, _, h => h
  | k + 1, q, r, s, hw, h => by
    show Room r (if (fl1 ((q * 64 : Nat) : Int) s).1 ≠ 0 then fl1 ((q * 64 : Nat) : Int) s else flL k (q + 1) (fl1 ((q * 64 : Nat) : Int) s).2).2
    have h1 := fl1_room (s2 := (fl1 ((q * 64 : Nat) : Int) s).2) rfl hw h
    split
    · exact h1
    · exact flL_room k (fl1_wf hw) h1
theorem back_room {x : Nat × List Nat} {r : Nat} {s s2 : DevS} {e : Int} (h : backS x s = (e, s2)) (hw : WfD s) (hb : ∀ b ∈ x.2, b < 256) (hr : Room (r + x.2.length) s) : Room r s2 := by
  have hws : WfD (sto (x.1 : Nat) x.2 s).2 := sto_wf hw hb fun l hl => by have := hr l hl; omega
  have h1 := sto_room (e := (sto (x.1 : Nat) x.2 s).1) (s2 := (sto (x.1 : Nat) x.2 s).2) rfl hw hb hr
  unfold backS at h
  split at h
  · have := congrArg Prod.snd h; simp only at this; rw [← this]; exact h1
  · have h2 := flL_room ((x.1 + x.2.length - 1) / 64 - x.1 / 64 + 1) (q := x.1 / 64) hws h1
    have := congrArg Prod.snd h; simp only at this; rw [← this]; exact h2
theorem flL_len : ∀ (k q : Nat) (s : DevS), (flL k q s).2.ls.length = s.ls.length
  | 0, _, _ => rfl
  | k + 1, q, s => by
    show (if (fl1 ((q * 64 : Nat) : Int) s).1 ≠ 0 then fl1 ((q * 64 : Nat) : Int) s else flL k (q + 1) (fl1 ((q * 64 : Nat) : Int) s).2).2.ls.length = _
    split
    · exact fl1_len _ _
    · rw [flL_len k]; exact fl1_len _ _
theorem back_len (x : Nat × List Nat) (s : DevS) : (backS x s).2.ls.length = s.ls.length := by
  unfold backS
  split
  · exact sto_len _ _ _
  · unfold flushX; rw [flL_len]; exact sto_len _ _ _
theorem Records_w {A R : SP} {C : SP → SP} {d : Nat} {s : DevS} (hc : Ct A (Dev d s) R C := by repeat (first | with_reducible exact ct_here | apply ct_left)) {bl at_ sz : Nat} (hl : Has R bl (cl (lcs11 d at_ sz) 52) := by (repeat (first | assumption | with_reducible exact has_here | with_reducible exact has_pt | apply has_left))) (hlw : LogW (s.ls.length * 64) at_ sz := by assumption) {L : List (Nat × List Nat)} {e : Int} (hX : recordsS at_ sz s = (L, e)) : Fn Try.prog 25 #[.pointer (some ⟨bl, 0, none⟩)] A (fun r B => ∃ a2 c2 vs, r = .tuple #[.slice a2 L.length c2, .int .i64 e] ∧ L.length ≤ c2 ∧ vs.length = L.length ∧ B = C (Dev d s) * Parts vs (L.map (·.2)) * Sl 2 (.slice a2 L.length c2) L.length (kcl L vs)) := by
  have h := Records_c hc hl hlw
  rw [hX] at h
  exact h
attribute [local irreducible] crk crL crc Sl pt ro Dev imgS recS readS recsF rdW rdO rkT Parts rvl recordsS
namespace Rg
theorem Rollback_c {A R : SP} {C : SP → SP} {d : Nat} {s : DevS} (hc : Ct A (Dev d s) R C := by repeat (first | with_reducible exact ct_here | apply ct_left)) {bl at_ sz : Nat} (hl : Has R bl (cl (lcs11 d at_ sz) 52) := by (repeat (first | assumption | with_reducible exact has_here | with_reducible exact has_pt | apply has_left))) (hlw : LogW (s.ls.length * 64) at_ sz := by assumption) (hroom : Room (sz + 1) s := by assumption) :
    Fn Try.prog 37 #[.pointer (some ⟨bl, 0, none⟩)] (A) (fun r B => ∃ e k s2, rollS at_ sz s = ((k, e), s2) ∧ r = .tuple #[.int .i64 k, .int .i64 e] ∧ B = C (Dev d s2)) := by
  refine fn_enterW (args := [.pointer (some ⟨bl, 0, none⟩)]) Try.func37 rfl Try.ntmps37 (by simp) ?_; refine tc_have (fun _ _ h => ct_wf2 hc h) fun hw => ?_
  have htop := hw.top
  have hpos := hw.pos
  obtain ⟨rfl, hC⟩ := hc
  have hAC : ∀ g w, sat g w (R * Dev d s) → sat g w (C (Dev d s)) := fun g w h => by rw [hC]; exact h
  have hlw9 := hlw
  obtain ⟨w1, w2, w3, w4, w5⟩ := hlw9
  obtain ⟨L, e0, hL⟩ : ∃ L e0, recordsS at_ sz s = (L, e0) := ⟨_, _, rfl⟩
  refine tc_seq ?_; refine tc_reg ?_; refine tl_x rfl (o_box rfl rfl) ?_; rintro _ _ ⟨b1, rfl, rfl⟩; refine tl_x rfl (o_alloc z3 rfl) ?_; rintro _ _ ⟨b2, rfl, rfl⟩; refine tl_x rfl (o_alloc z25 rfl) ?_; rintro _ _ ⟨b3, rfl, rfl⟩; refine tl_nil ?_; refine q_then_n ?_; refine tc_seq ?_; refine tc_reg ?_; refine tl_v rfl (by first | exact o_load p37 rfl (by repeat (first | with_reducible exact has_here | with_reducible exact has_pt | apply has_left)) rfl | exact o_loadC p37 rfl (by assumption)) ?_; refine tl_c rfl (o_call bd25 rfl (Records_w (s := s) (hX := hL))) ?_; rintro _ _ ⟨a13, c13, vs, rfl, hc13, hvs, rfl⟩; refine tl_have (fun _ _ h => parts_getD hvs h.left) fun hps => ?_; refine tlm ?_; refine tl_v rfl (o_extract rfl rfl) ?_; refine tl_v rfl (o_extract rfl rfl) ?_; refine tla ?_; refine tla ?_; refine tl_nil ?_; refine q_then_n ?_; refine tc_seq ?_; refine tc_seq ?_; refine tc_reg ?_; refine tlm ?_; refine tl_v rfl (o_nei rfl rfl) ?_; refine tlm ?_; refine tl_bool (d := 18) rfl (fun h => ?_) (fun h => ?_)
  · have g18 : (e0 ≠ 0) := by first | exact of_decide_eq_true h | (have h2 := h; simp at h2; omega) | simpa using h
    refine tl_skip rfl ?_; refine tl_skip rfl ?_; refine tl_skip rfl ?_; refine tl_v rfl (o_pick_t rfl (by conv => lhs; whnf)) ?_; refine tl_nil ?_; refine q_then_n ?_; refine tc_cond_t rfl ?_; refine tc_seq ?_; refine tc_reg ?_; refine tlm ?_; refine tl_u rfl (o_stU rfl (by repeat (first | with_reducible exact upd_here | with_reducible exact upd_pt | apply upd_left)) sz3 rfl rfl (by first | decide | simp | omega) rfl) ?_; refine tl_u rfl (o_stU rfl (by repeat (first | with_reducible exact upd_here | with_reducible exact upd_pt | apply upd_left)) sz25 rfl rfl (by first | decide | simp | omega) rfl) ?_; refine tl_nil ?_; refine q_then_n ?_; refine tc_ret ?_; refine q_then_r ?_; exact ⟨[], _, rfl, fun _ _ h => mk0 h, .tuple #[.int .i64 0, .int .i64 e0], C (Dev d s), resA2 rfl (rv_cell1 p3 rfl (by repeat (first | with_reducible exact has_here | with_reducible exact has_pt | apply has_left)) rfl) (rv_cell1 p25 rfl (by repeat (first | with_reducible exact has_here | with_reducible exact has_pt | apply has_left)) rfl), fun _ _ h => by rw [hC]; exact (Dr.sat (A' := R * Dev d s) (by repeat (first | with_reducible exact dr_refl | apply dr_keep | apply dr_drop))) _ _ h, e0, 0, s, roll_no hL (by first | exact hor | exact .inl (by assumption)), rfl, rfl⟩
  · have g18 : ¬ (e0 ≠ 0) := by first | exact of_decide_eq_false h | (have h2 := h; simp at h2; omega) | simpa using h
    refine tlm ?_; refine tl_v rfl (o_len Try.underlying63 rfl) ?_; refine tl_v rfl (o_eqi rfl rfl) ?_; refine tl_v rfl (o_pick_f rfl (by conv => lhs; whnf)) ?_; refine tl_nil ?_; refine q_then_n ?_; refine tc_cond rfl (fun h => ?_) (fun h => ?_)
    · have hor : e0 ≠ 0 ∨ L = [] := by first | exact .inl (by assumption) | exact .inr (List.eq_nil_of_length_eq_zero (by first | (have := of_decide_eq_true h; omega) | (simp at h; omega)))
      refine tc_seq ?_; refine tc_reg ?_; refine tlm ?_; refine tl_u rfl (o_stU rfl (by repeat (first | with_reducible exact upd_here | with_reducible exact upd_pt | apply upd_left)) sz3 rfl rfl (by first | decide | simp | omega) rfl) ?_; refine tl_u rfl (o_stU rfl (by repeat (first | with_reducible exact upd_here | with_reducible exact upd_pt | apply upd_left)) sz25 rfl rfl (by first | decide | simp | omega) rfl) ?_; refine tl_nil ?_; refine q_then_n ?_; refine tc_ret ?_; refine q_then_r ?_; exact ⟨[], _, rfl, fun _ _ h => mk0 h, .tuple #[.int .i64 0, .int .i64 e0], C (Dev d s), resA2 rfl (rv_cell1 p3 rfl (by repeat (first | with_reducible exact has_here | with_reducible exact has_pt | apply has_left)) rfl) (rv_cell1 p25 rfl (by repeat (first | with_reducible exact has_here | with_reducible exact has_pt | apply has_left)) rfl), fun _ _ h => by rw [hC]; exact (Dr.sat (A' := R * Dev d s) (by repeat (first | with_reducible exact dr_refl | apply dr_keep | apply dr_drop))) _ _ h, e0, 0, s, roll_no hL (by first | exact hor | exact .inl (by assumption)), rfl, rfl⟩
    · obtain rfl : e0 = 0 := by omega
      have hne : L ≠ [] := fun e9 => by subst e9; first | exact of_decide_eq_false h rfl | (simp at h)
      refine tc_skip ?_; refine q_then_n ?_; refine tc_seq ?_; refine tc_seq ?_
      obtain ⟨hrk, hrs⟩ := records_ok hw hlw hL
      refine tc_reg ?_; refine tlm ?_; refine tl_c rfl (o_call bd66 rfl (bwd_c (N := L.length))) ?_; rintro _ _ ⟨q1, rfl, rfl⟩; refine tl_nil ?_; refine q_then_n ?_; refine tc_block ?_; refine tc_rangeI (K := (pt q1 (cl [.slice a13 L.length c13] 63) * Sl 2 (.slice a13 L.length c13) L.length (kcl L vs))) (N := L.length) (A0 := R * Dev d s * Parts vs (L.map (·.2)) * pt b1 (cl [.pointer (some ⟨bl, 0, none⟩)] 37) * pt b2 (cl [.int .i64 0] 3) * pt b3 (cl [.int .i64 0] 25)) (fun i S => ∃ (s1 : DevS), (backF (L.reverse.drop i) s1 = backF L.reverse s) ∧ (s1.ls.length = s.ls.length) ∧ (Room (sumL (L.reverse.drop i) + 1) s1) ∧ S = R * Dev d s1 * Parts vs (L.map (·.2)) * pt b1 (cl [.pointer (some ⟨bl, 0, none⟩)] 37) * pt b2 (cl [.int .i64 0] 3) * pt b3 (cl [.int .i64 0] 25)) (fun j S => ∃ (e : Int) (s1 : DevS), j = .ret ∧ (backF L.reverse s = (e, s1)) ∧ (e ≠ 0) ∧ S = R * Dev d s1 * Parts vs (L.map (·.2)) * pt b1 (cl [.pointer (some ⟨bl, 0, none⟩)] 37) * pt b2 (cl [.int .i64 0] 3) * pt b3 (cl [.int .i64 e] 25)) rfl bd84 (bwd_it (L := L) (vs := vs) (a := a13) (c := c13) rfl hvs (by omega)) (fun _ => rfl) rfl (fun _ _ h => h.perm (by ac_rfl)) (⟨s, rfl, rfl, fun l hl => by have := hroom l hl; rw [List.drop_zero, sumL_rev]; omega, rfl⟩) ?_ ?_ ?_
      · intro l F i S hi hI
        obtain ⟨s1, hi0, hi1, hi2, rfl⟩ := hI
        refine tc_eq (by simp only [← star_assoc]; rfl) ?_
        have hkk : (L.length - 1 - i) < L.length := by omega
        obtain ⟨xb, xc, hv27, hxc⟩ := hps _ hkk
        have hprs := parts_rsL hvs hkk hv27
        have hdr := rev_at hi
        obtain ⟨hmx, hxb⟩ := hrk _ (getD_mem hkk)
        obtain ⟨zp, zm, hz, y1, y2, y3, y4⟩ := may_nat hmx
        simp only [Prod.mk.injEq, Int.ofNat_inj] at hz
        obtain ⟨hz1, hz2⟩ := hz
        rw [hdr, sumL_cons] at hi2
        refine tc_have (fun _ _ h => ct_wf2 (by repeat (first | with_reducible exact ct_here | apply ct_left)) h) fun hw1 => ?_; refine tc_env (d := 26) (v := .int .i64 (((L.length - 1 - i) : Nat) : Int)) (rfl) ?_; refine tc_env (d := 27) (v := .agg #[.int .i64 ((((L.getD (L.length - 1 - i) (0, [])).1) : Nat) : Int), .slice xb ((L.getD (L.length - 1 - i) (0, [])).2).length xc]) (by show rvl L vs (L.length - 1 - i) = _; unfold rvl; rw [hv27]) ?_; refine tc_reg ?_; refine tl_x rfl (o_alloc z70 rfl) ?_; rintro _ _ ⟨b7, rfl, rfl⟩; refine tl_u rfl (o_stUN (l' := [.int .i64 ((((L.getD (L.length - 1 - i) (0, [])).1) : Nat) : Int), .slice xb ((L.getD (L.length - 1 - i) (0, [])).2).length xc]) rfl (by repeat (first | with_reducible exact upd_here | with_reducible exact upd_pt | apply upd_left)) sz70 rfl rfl rfl (by show 2 ≤ 2; decide) rfl) ?_; refine tl_nil ?_; refine ⟨R * Dev d s1 * Parts vs (L.map (·.2)) * pt b1 (cl [.pointer (some ⟨bl, 0, none⟩)] 37) * pt b2 (cl [.int .i64 0] 3) * pt b3 (cl [.int .i64 0] 25) * pt b7 (cl [.int .i64 ((((L.getD (L.length - 1 - i) (0, [])).1) : Nat) : Int), .slice xb ((L.getD (L.length - 1 - i) (0, [])).2).length xc] 70), fun g w h => by simp only [← star_assoc]; exact Dr.sat (by repeat (first | with_reducible exact dr_refl | apply dr_keep | apply dr_drop)) g w h, fun F => ?_⟩; refine tc_eq (by simp only [← star_assoc]; rfl) ?_; refine tc_block ?_; refine tc_seq ?_; refine tc_reg ?_
        refine tl_v rfl (by first | exact o_load p37 rfl (by repeat (first | with_reducible exact has_here | with_reducible exact has_pt | apply has_left)) rfl | exact o_loadC p37 rfl (by assumption)) ?_; refine tl_v rfl (o_loadN (vs := [.int .i64 ((((L.getD (L.length - 1 - i) (0, [])).1) : Nat) : Int), .slice xb ((L.getD (L.length - 1 - i) (0, [])).2).length xc]) a70 sz70 rfl (by repeat (first | with_reducible exact has_here | with_reducible exact has_pt | apply has_left)) (by show 2 ≤ 2; decide) rfl) ?_; refine tl_c rfl (o_call bd67 rfl (back_c (s := s1) (p := ((L.getD (L.length - 1 - i) (0, [])).1)) (m := ((L.getD (L.length - 1 - i) (0, [])).2).length) (xs := ((L.getD (L.length - 1 - i) (0, [])).2)) (a := xb) (c := xc) (hl := (by repeat (first | assumption | exact has_rt (by assumption) | apply has_left))) (hr := by repeat (first | exact hprs _ | apply Rs.left)) (hmc := hxc) (hb := hxb) (hroom := fun l hl => by have := hi2 l hl; omega))) ?_; rintro _ _ ⟨e30, s30, hs30, rfl, rfl⟩; refine tla ?_; refine tl_nil ?_; refine q_then_n ?_; refine tc_seq ?_; refine tc_reg ?_; refine tlm ?_; refine tl_v rfl (o_nei rfl rfl) ?_; refine tl_nil ?_; refine q_then_n ?_; refine tc_cond rfl (fun h => ?_) (fun h => ?_)
        · have he30 : e30 ≠ 0 := by simpa using h
          refine tc_seq ?_; refine tc_reg ?_; refine tlm ?_; refine tl_u rfl (o_stU rfl (by repeat (first | with_reducible exact upd_here | with_reducible exact upd_pt | apply upd_left)) sz3 rfl rfl (by first | decide | simp | omega) rfl) ?_; refine tl_u rfl (o_stU rfl (by repeat (first | with_reducible exact upd_here | with_reducible exact upd_pt | apply upd_left)) sz25 rfl rfl (by first | decide | simp | omega) rfl) ?_; refine tl_nil ?_; refine q_then_n ?_; refine tc_ret ?_; refine q_block_r ?_; exact ⟨R * Dev d (s30) * Parts vs (L.map (·.2)) * pt b1 (cl [.pointer (some ⟨bl, 0, none⟩)] 37) * pt b2 (cl [.int .i64 0] 3) * pt b3 (cl [.int .i64 (e30)] 25), fun g w h => by simp only [← star_assoc]; exact Dr.sat (by repeat (first | with_reducible exact dr_refl | apply dr_keep | apply dr_drop)) g w h, e30, s30, rfl, by rw [← hi0, hdr]; exact backF_e hs30 he30, he30, rfl⟩
        · obtain rfl : e30 = 0 := by simpa using h
          refine tc_skip ?_; refine q_block_n ?_; exact ⟨R * Dev d (s30) * Parts vs (L.map (·.2)) * pt b1 (cl [.pointer (some ⟨bl, 0, none⟩)] 37) * pt b2 (cl [.int .i64 0] 3) * pt b3 (cl [.int .i64 0] 25), fun g w h => by simp only [← star_assoc]; exact Dr.sat (by repeat (first | with_reducible exact dr_refl | apply dr_keep | apply dr_drop)) g w h, s30, by rw [← hi0, hdr]; exact (backF_o hs30).symm, by have := back_len (L.getD (L.length - 1 - i) (0, [])) s1; rw [show backS (L.getD (L.length - 1 - i) (0, [])) s1 = (0, s30) from hs30] at this; exact this.trans hi1, back_room (x := L.getD (L.length - 1 - i) (0, [])) hs30 hw1 hxb (fun l hl => by have := hi2 l hl; omega), rfl⟩
      · intro r S hI
        obtain ⟨s1, hi0, hi1, hi2, rfl⟩ := hI
        refine q_block_n (q_then_n ?_); refine tc_seq ?_; refine tc_seq ?_
        have hbk : backF L.reverse s = (0, s1) := by rw [← hi0, List.drop_eq_nil_of_le (by rw [List.length_reverse]; exact Nat.le_refl _)]; rfl
        refine tc_have (fun _ _ h => ct_wf2 (by repeat (first | with_reducible exact ct_here | apply ct_left)) h) fun hw1 => ?_
        have hr1 : Room 1 s1 := fun l hl => by have := hi2 l hl; omega
        refine tc_reg ?_; refine tl_v rfl (by first | exact o_load p37 rfl (by repeat (first | with_reducible exact has_here | with_reducible exact has_pt | apply has_left)) rfl | exact o_loadC p37 rfl (by assumption)) ?_; refine tl_v rfl (o_nilCheck rfl) ?_; refine tl_v rfl (o_fieldAddr (o := 0) Try.underlying52 rfl rfl sz31 rfl) ?_; refine tl_v rfl (o_load p31 rfl (by repeat (first | assumption | apply has_left)) rfl) ?_; refine tl_c rfl (o_call bd65 rfl (Fence_c (s := s1))) ?_; rintro _ _ ⟨e38, s38, hs38, rfl, rfl⟩; refine tla ?_; refine tl_nil ?_; refine q_then_n ?_; refine tc_seq ?_; refine tc_reg ?_; refine tlm ?_; refine tl_v rfl (o_nei rfl rfl) ?_; refine tl_nil ?_; refine q_then_n ?_; refine tc_cond rfl (fun h => ?_) (fun h => ?_)
        · have he38 : e38 ≠ 0 := by simpa using h
          refine tc_seq ?_; refine tc_reg ?_; refine tlm ?_; refine tl_u rfl (o_stU rfl (by repeat (first | with_reducible exact upd_here | with_reducible exact upd_pt | apply upd_left)) sz3 rfl rfl (by first | decide | simp | omega) rfl) ?_; refine tl_u rfl (o_stU rfl (by repeat (first | with_reducible exact upd_here | with_reducible exact upd_pt | apply upd_left)) sz25 rfl rfl (by first | decide | simp | omega) rfl) ?_; refine tl_nil ?_; refine q_then_n ?_; refine tc_ret ?_; refine q_then_r ?_; exact ⟨[r], _, rfl, fun _ _ h => mk1 h, .tuple #[.int .i64 0, .int .i64 e38], C (Dev d s38), resA2 rfl (rv_cell1 p3 rfl (by repeat (first | with_reducible exact has_here | with_reducible exact has_pt | apply has_left)) rfl) (rv_cell1 p25 rfl (by repeat (first | with_reducible exact has_here | with_reducible exact has_pt | apply has_left)) rfl), fun _ _ h => by rw [hC]; exact (Dr.sat (A' := R * Dev d s38) (by repeat (first | with_reducible exact dr_refl | apply dr_keep | apply dr_drop))) _ _ h, e38, 0, s38, roll_f hL hne hbk hs38 he38, rfl, rfl⟩
        · obtain rfl : e38 = 0 := by simpa using h
          have hr2 := fe_room hs38 hw1 hr1
          refine tc_skip ?_; refine q_then_n ?_; refine tc_seq ?_; refine tc_seq ?_; refine tc_cut (fun ρ BB => ∃ (e50 : Int) (s50 : DevS), (pubP (at_ : Nat) 0 s38 = (e50, s50)) ∧ ρ 10 = .int .i64 e50 ∧ ρ 56 = mkv [r] ∧ ρ 2 = .pointer (some ⟨b2, 0, none⟩) ∧ ρ 3 = .pointer (some ⟨b3, 0, none⟩) ∧ ρ 4 = .slice a13 L.length c13 ∧ Dr BB (R * Dev d s50 * Parts vs (L.map (·.2)) * pt b1 (cl [.pointer (some ⟨bl, 0, none⟩)] 37) * pt b2 (cl [.int .i64 0] 3) * pt b3 (cl [.int .i64 0] 25) * pt r mkO)) ?_ ?_
          · skip
            refine tc_regh (S := R) mo (by repeat (first | with_reducible exact dr_refl | apply dr_keep | apply dr_drop)) ?_
            show TH _ _ _ _ _ 10 #[ff,ff,ff,ff,ff,ff,ff,ff,ff,ff] _ _
            refine th_two (i := 0) (j := 4) (by kernel_rfl) ?_ ?_
            · skip
              refine oh_v (i := 0) (listed' := #[tt,ff,ff,ff,ff,ff,ff,ff,ff,ff]) rfl rfl rfl (by first | exact o_load p37 rfl (by repeat (first | with_reducible exact has_here | with_reducible exact has_pt | apply has_left)) rfl | exact o_loadC p37 rfl (by assumption)) ?_; refine th_take (i := 1) (listed' := #[tt,tt,ff,ff,ff,ff,ff,ff,ff,ff]) rfl (by kernel_rfl) (by kernel_rfl) (by kernel_rfl) rfl rfl (o_nilCheck rfl) ?_; refine th_take (i := 2) (listed' := #[tt,tt,tt,ff,ff,ff,ff,ff,ff,ff]) rfl (by kernel_rfl) (by kernel_rfl) (by kernel_rfl) rfl rfl (o_fieldAddr (o := 0) Try.underlying52 rfl rfl sz31 rfl) ?_; refine th_two (i := 3) (j := 4) (by kernel_rfl) ?_ ?_
              · skip
                refine oh_v (i := 3) (listed' := #[tt,tt,tt,tt,ff,ff,ff,ff,ff,ff]) rfl rfl rfl (o_load p31 rfl (by repeat (first | assumption | apply has_left)) rfl) ?_; refine th_one (i := 4) (by kernel_rfl) ?_; refine oh_v (i := 4) (listed' := #[tt,tt,tt,tt,tt,ff,ff,ff,ff,ff]) rfl rfl rfl (by first | exact o_load p37 rfl (by repeat (first | with_reducible exact has_here | with_reducible exact has_pt | apply has_left)) rfl | exact o_loadC p37 rfl (by assumption)) ?_; refine th_take (i := 5) (listed' := #[tt,tt,tt,tt,tt,tt,ff,ff,ff,ff]) rfl (by kernel_rfl) (by kernel_rfl) (by kernel_rfl) rfl rfl (o_nilCheck rfl) ?_; refine th_take (i := 6) (listed' := #[tt,tt,tt,tt,tt,tt,tt,ff,ff,ff]) rfl (by kernel_rfl) (by kernel_rfl) (by kernel_rfl) rfl rfl (o_fieldAddr (o := 1) Try.underlying52 rfl rfl sz3 rfl) ?_; refine th_one (i := 7) (by kernel_rfl) ?_; refine oh_v (i := 7) (listed' := #[tt,tt,tt,tt,tt,tt,tt,tt,ff,ff]) rfl rfl rfl (o_load p3 rfl (by repeat (first | assumption | apply has_left)) rfl) ?_; refine th_one (i := 8) (by kernel_rfl) ?_; refine oh_c (i := 8) (listed' := #[tt,tt,tt,tt,tt,tt,tt,tt,tt,ff]) rfl rfl rfl (o_call bd57 rfl (Publish_c (s := s38) (p := (at_ : Nat)) (v := 0))) ?_; rintro _ _ ⟨e50, s50, hs50, rfl, rfl⟩; refine ⟨by repeat (first | with_reducible exact dr_refl | apply dr_keep | apply dr_drop), ?_⟩; refine th_take (i := 9) (listed' := #[tt,tt,tt,tt,tt,tt,tt,tt,tt,tt]) rfl (by kernel_rfl) (by kernel_rfl) (by kernel_rfl) rfl rfl (o_assign (by conv => lhs; whnf)) ?_
                refine th_done (by kernel_rfl) ?_; exact ⟨e50, s50, hs50, rfl, rfl, rfl, rfl, rfl, (by repeat (first | with_reducible exact dr_refl | apply dr_keep | apply dr_drop))⟩
              · skip
                refine oh_v (i := 4) (listed' := #[tt,tt,tt,ff,tt,ff,ff,ff,ff,ff]) rfl rfl rfl (by first | exact o_load p37 rfl (by repeat (first | with_reducible exact has_here | with_reducible exact has_pt | apply has_left)) rfl | exact o_loadC p37 rfl (by assumption)) ?_; refine th_take (i := 5) (listed' := #[tt,tt,tt,ff,tt,tt,ff,ff,ff,ff]) rfl (by kernel_rfl) (by kernel_rfl) (by kernel_rfl) rfl rfl (o_nilCheck rfl) ?_; refine th_take (i := 6) (listed' := #[tt,tt,tt,ff,tt,tt,tt,ff,ff,ff]) rfl (by kernel_rfl) (by kernel_rfl) (by kernel_rfl) rfl rfl (o_fieldAddr (o := 1) Try.underlying52 rfl rfl sz3 rfl) ?_; refine th_two (i := 3) (j := 7) (by kernel_rfl) ?_ ?_
                · skip
                  refine oh_v (i := 3) (listed' := #[tt,tt,tt,tt,tt,tt,tt,ff,ff,ff]) rfl rfl rfl (o_load p31 rfl (by repeat (first | assumption | apply has_left)) rfl) ?_; refine th_one (i := 7) (by kernel_rfl) ?_; refine oh_v (i := 7) (listed' := #[tt,tt,tt,tt,tt,tt,tt,tt,ff,ff]) rfl rfl rfl (o_load p3 rfl (by repeat (first | assumption | apply has_left)) rfl) ?_; refine th_one (i := 8) (by kernel_rfl) ?_; refine oh_c (i := 8) (listed' := #[tt,tt,tt,tt,tt,tt,tt,tt,tt,ff]) rfl rfl rfl (o_call bd57 rfl (Publish_c (s := s38) (p := (at_ : Nat)) (v := 0))) ?_; rintro _ _ ⟨e50, s50, hs50, rfl, rfl⟩; refine ⟨by repeat (first | with_reducible exact dr_refl | apply dr_keep | apply dr_drop), ?_⟩; refine th_take (i := 9) (listed' := #[tt,tt,tt,tt,tt,tt,tt,tt,tt,tt]) rfl (by kernel_rfl) (by kernel_rfl) (by kernel_rfl) rfl rfl (o_assign (by conv => lhs; whnf)) ?_; refine th_done (by kernel_rfl) ?_; exact ⟨e50, s50, hs50, rfl, rfl, rfl, rfl, rfl, (by repeat (first | with_reducible exact dr_refl | apply dr_keep | apply dr_drop))⟩
                · skip
                  refine oh_v (i := 7) (listed' := #[tt,tt,tt,ff,tt,tt,tt,tt,ff,ff]) rfl rfl rfl (o_load p3 rfl (by repeat (first | assumption | apply has_left)) rfl) ?_; refine th_one (i := 3) (by kernel_rfl) ?_; refine oh_v (i := 3) (listed' := #[tt,tt,tt,tt,tt,tt,tt,tt,ff,ff]) rfl rfl rfl (o_load p31 rfl (by repeat (first | assumption | apply has_left)) rfl) ?_; refine th_one (i := 8) (by kernel_rfl) ?_; refine oh_c (i := 8) (listed' := #[tt,tt,tt,tt,tt,tt,tt,tt,tt,ff]) rfl rfl rfl (o_call bd57 rfl (Publish_c (s := s38) (p := (at_ : Nat)) (v := 0))) ?_; rintro _ _ ⟨e50, s50, hs50, rfl, rfl⟩; refine ⟨by repeat (first | with_reducible exact dr_refl | apply dr_keep | apply dr_drop), ?_⟩; refine th_take (i := 9) (listed' := #[tt,tt,tt,tt,tt,tt,tt,tt,tt,tt]) rfl (by kernel_rfl) (by kernel_rfl) (by kernel_rfl) rfl rfl (o_assign (by conv => lhs; whnf)) ?_; refine th_done (by kernel_rfl) ?_; exact ⟨e50, s50, hs50, rfl, rfl, rfl, rfl, rfl, (by repeat (first | with_reducible exact dr_refl | apply dr_keep | apply dr_drop))⟩
            · skip
              refine oh_v (i := 4) (listed' := #[ff,ff,ff,ff,tt,ff,ff,ff,ff,ff]) rfl rfl rfl (by first | exact o_load p37 rfl (by repeat (first | with_reducible exact has_here | with_reducible exact has_pt | apply has_left)) rfl | exact o_loadC p37 rfl (by assumption)) ?_; refine th_take (i := 5) (listed' := #[ff,ff,ff,ff,tt,tt,ff,ff,ff,ff]) rfl (by kernel_rfl) (by kernel_rfl) (by kernel_rfl) rfl rfl (o_nilCheck rfl) ?_; refine th_take (i := 6) (listed' := #[ff,ff,ff,ff,tt,tt,tt,ff,ff,ff]) rfl (by kernel_rfl) (by kernel_rfl) (by kernel_rfl) rfl rfl (o_fieldAddr (o := 1) Try.underlying52 rfl rfl sz3 rfl) ?_; refine th_two (i := 0) (j := 7) (by kernel_rfl) ?_ ?_
              · skip
                refine oh_v (i := 0) (listed' := #[tt,ff,ff,ff,tt,tt,tt,ff,ff,ff]) rfl rfl rfl (by first | exact o_load p37 rfl (by repeat (first | with_reducible exact has_here | with_reducible exact has_pt | apply has_left)) rfl | exact o_loadC p37 rfl (by assumption)) ?_; refine th_take (i := 1) (listed' := #[tt,tt,ff,ff,tt,tt,tt,ff,ff,ff]) rfl (by kernel_rfl) (by kernel_rfl) (by kernel_rfl) rfl rfl (o_nilCheck rfl) ?_; refine th_take (i := 2) (listed' := #[tt,tt,tt,ff,tt,tt,tt,ff,ff,ff]) rfl (by kernel_rfl) (by kernel_rfl) (by kernel_rfl) rfl rfl (o_fieldAddr (o := 0) Try.underlying52 rfl rfl sz31 rfl) ?_; refine th_two (i := 3) (j := 7) (by kernel_rfl) ?_ ?_
                · skip
                  refine oh_v (i := 3) (listed' := #[tt,tt,tt,tt,tt,tt,tt,ff,ff,ff]) rfl rfl rfl (o_load p31 rfl (by repeat (first | assumption | apply has_left)) rfl) ?_; refine th_one (i := 7) (by kernel_rfl) ?_; refine oh_v (i := 7) (listed' := #[tt,tt,tt,tt,tt,tt,tt,tt,ff,ff]) rfl rfl rfl (o_load p3 rfl (by repeat (first | assumption | apply has_left)) rfl) ?_; refine th_one (i := 8) (by kernel_rfl) ?_; refine oh_c (i := 8) (listed' := #[tt,tt,tt,tt,tt,tt,tt,tt,tt,ff]) rfl rfl rfl (o_call bd57 rfl (Publish_c (s := s38) (p := (at_ : Nat)) (v := 0))) ?_; rintro _ _ ⟨e50, s50, hs50, rfl, rfl⟩; refine ⟨by repeat (first | with_reducible exact dr_refl | apply dr_keep | apply dr_drop), ?_⟩; refine th_take (i := 9) (listed' := #[tt,tt,tt,tt,tt,tt,tt,tt,tt,tt]) rfl (by kernel_rfl) (by kernel_rfl) (by kernel_rfl) rfl rfl (o_assign (by conv => lhs; whnf)) ?_; refine th_done (by kernel_rfl) ?_; exact ⟨e50, s50, hs50, rfl, rfl, rfl, rfl, rfl, (by repeat (first | with_reducible exact dr_refl | apply dr_keep | apply dr_drop))⟩
                · skip
                  refine oh_v (i := 7) (listed' := #[tt,tt,tt,ff,tt,tt,tt,tt,ff,ff]) rfl rfl rfl (o_load p3 rfl (by repeat (first | assumption | apply has_left)) rfl) ?_; refine th_one (i := 3) (by kernel_rfl) ?_; refine oh_v (i := 3) (listed' := #[tt,tt,tt,tt,tt,tt,tt,tt,ff,ff]) rfl rfl rfl (o_load p31 rfl (by repeat (first | assumption | apply has_left)) rfl) ?_; refine th_one (i := 8) (by kernel_rfl) ?_; refine oh_c (i := 8) (listed' := #[tt,tt,tt,tt,tt,tt,tt,tt,tt,ff]) rfl rfl rfl (o_call bd57 rfl (Publish_c (s := s38) (p := (at_ : Nat)) (v := 0))) ?_; rintro _ _ ⟨e50, s50, hs50, rfl, rfl⟩; refine ⟨by repeat (first | with_reducible exact dr_refl | apply dr_keep | apply dr_drop), ?_⟩; refine th_take (i := 9) (listed' := #[tt,tt,tt,tt,tt,tt,tt,tt,tt,tt]) rfl (by kernel_rfl) (by kernel_rfl) (by kernel_rfl) rfl rfl (o_assign (by conv => lhs; whnf)) ?_; refine th_done (by kernel_rfl) ?_; exact ⟨e50, s50, hs50, rfl, rfl, rfl, rfl, rfl, (by repeat (first | with_reducible exact dr_refl | apply dr_keep | apply dr_drop))⟩
              · skip
                refine oh_v (i := 7) (listed' := #[ff,ff,ff,ff,tt,tt,tt,tt,ff,ff]) rfl rfl rfl (o_load p3 rfl (by repeat (first | assumption | apply has_left)) rfl) ?_; refine th_one (i := 0) (by kernel_rfl) ?_; refine oh_v (i := 0) (listed' := #[tt,ff,ff,ff,tt,tt,tt,tt,ff,ff]) rfl rfl rfl (by first | exact o_load p37 rfl (by repeat (first | with_reducible exact has_here | with_reducible exact has_pt | apply has_left)) rfl | exact o_loadC p37 rfl (by assumption)) ?_; refine th_take (i := 1) (listed' := #[tt,tt,ff,ff,tt,tt,tt,tt,ff,ff]) rfl (by kernel_rfl) (by kernel_rfl) (by kernel_rfl) rfl rfl (o_nilCheck rfl) ?_; refine th_take (i := 2) (listed' := #[tt,tt,tt,ff,tt,tt,tt,tt,ff,ff]) rfl (by kernel_rfl) (by kernel_rfl) (by kernel_rfl) rfl rfl (o_fieldAddr (o := 0) Try.underlying52 rfl rfl sz31 rfl) ?_; refine th_one (i := 3) (by kernel_rfl) ?_; refine oh_v (i := 3) (listed' := #[tt,tt,tt,tt,tt,tt,tt,tt,ff,ff]) rfl rfl rfl (o_load p31 rfl (by repeat (first | assumption | apply has_left)) rfl) ?_; refine th_one (i := 8) (by kernel_rfl) ?_; refine oh_c (i := 8) (listed' := #[tt,tt,tt,tt,tt,tt,tt,tt,tt,ff]) rfl rfl rfl (o_call bd57 rfl (Publish_c (s := s38) (p := (at_ : Nat)) (v := 0))) ?_; rintro _ _ ⟨e50, s50, hs50, rfl, rfl⟩; refine ⟨by repeat (first | with_reducible exact dr_refl | apply dr_keep | apply dr_drop), ?_⟩; refine th_take (i := 9) (listed' := #[tt,tt,tt,tt,tt,tt,tt,tt,tt,tt]) rfl (by kernel_rfl) (by kernel_rfl) (by kernel_rfl) rfl rfl (o_assign (by conv => lhs; whnf)) ?_
                refine th_done (by kernel_rfl) ?_; exact ⟨e50, s50, hs50, rfl, rfl, rfl, rfl, rfl, (by repeat (first | with_reducible exact dr_refl | apply dr_keep | apply dr_drop))⟩
          · intro ρ B hI
            obtain ⟨e50, s50, hst0, hE10, hE56, hE2, hE3, hE4, hBA⟩ := hI
            refine q_then_n ?_; refine tc_pre hBA.sat ?_
            clear hBA
            refine tc_env (d := 10) hE10 ?_; refine tc_env (d := 56) hE56 ?_; refine tc_env (d := 2) hE2 ?_; refine tc_env (d := 3) hE3 ?_; refine tc_env (d := 4) hE4 ?_
            clear hE10 hE56 hE2 hE3 hE4
            refine tc_seq ?_; refine tc_reg ?_; refine tlm ?_; refine tl_v rfl (o_nei rfl rfl) ?_; refine tl_nil ?_; refine q_then_n ?_; refine tc_cond rfl (fun h => ?_) (fun h => ?_)
            · have he50 : e50 ≠ 0 := by simpa using h
              refine tc_seq ?_; refine tc_reg ?_; refine tlm ?_; refine tl_u rfl (o_stU rfl (by repeat (first | with_reducible exact upd_here | with_reducible exact upd_pt | apply upd_left)) sz3 rfl rfl (by first | decide | simp | omega) rfl) ?_; refine tl_u rfl (o_stU rfl (by repeat (first | with_reducible exact upd_here | with_reducible exact upd_pt | apply upd_left)) sz25 rfl rfl (by first | decide | simp | omega) rfl) ?_; refine tl_nil ?_; refine q_then_n ?_; refine tc_ret ?_; refine q_then_r ?_; exact ⟨[r], _, rfl, fun _ _ h => mk1 h, .tuple #[.int .i64 0, .int .i64 e50], C (Dev d s50), resA2 rfl (rv_cell1 p3 rfl (by repeat (first | with_reducible exact has_here | with_reducible exact has_pt | apply has_left)) rfl) (rv_cell1 p25 rfl (by repeat (first | with_reducible exact has_here | with_reducible exact has_pt | apply has_left)) rfl), fun _ _ h => by rw [hC]; exact (Dr.sat (A' := R * Dev d s50) (by repeat (first | with_reducible exact dr_refl | apply dr_keep | apply dr_drop))) _ _ h, e50, 0, s50, roll_p hL hne hbk hs38 hst0 he50, rfl, rfl⟩
            · obtain rfl : e50 = 0 := by simpa using h
              refine tc_skip ?_; refine q_then_n ?_; refine tc_seq ?_; refine tc_reg ?_; refine tlm ?_; refine tl_v rfl (o_len Try.underlying63 rfl) ?_; refine tl_u rfl (o_stU rfl (by repeat (first | with_reducible exact upd_here | with_reducible exact upd_pt | apply upd_left)) sz3 rfl rfl (by first | decide | simp | omega) rfl) ?_; refine tl_u rfl (o_stU rfl (by repeat (first | with_reducible exact upd_here | with_reducible exact upd_pt | apply upd_left)) sz25 rfl rfl (by first | decide | simp | omega) rfl) ?_; refine tl_nil ?_; refine q_then_n ?_; refine tc_ret ?_; exact ⟨[r], _, rfl, fun _ _ h => mk1 h, .tuple #[.int .i64 ((L.length : Nat) : Int), .int .i64 0], C (Dev d s50), resA2 rfl (rv_cell1 p3 rfl (by repeat (first | with_reducible exact has_here | with_reducible exact has_pt | apply has_left)) rfl) (rv_cell1 p25 rfl (by repeat (first | with_reducible exact has_here | with_reducible exact has_pt | apply has_left)) rfl), fun _ _ h => by rw [hC]; exact (Dr.sat (A' := R * Dev d s50) (by repeat (first | with_reducible exact dr_refl | apply dr_keep | apply dr_drop))) _ _ h, 0, ((L.length : Nat) : Int), s50, roll_o hL hne hbk hs38 hst0, rfl, rfl⟩
      · intro r j S hX
        obtain ⟨e, s1, rfl, hx0, hx1, rfl⟩ := hX
        refine jmp_r ?_; refine q_block_r (q_then_r ?_); exact ⟨[r], _, rfl, fun _ _ h => mk1 h, .tuple #[.int .i64 0, .int .i64 e], C (Dev d s1), resA2 rfl (rv_cell1 p3 rfl (by repeat (first | with_reducible exact has_here | with_reducible exact has_pt | apply has_left)) rfl) (rv_cell1 p25 rfl (by repeat (first | with_reducible exact has_here | with_reducible exact has_pt | apply has_left)) rfl), fun _ _ h => by rw [hC]; exact (Dr.sat (A' := R * Dev d s1) (by repeat (first | with_reducible exact dr_refl | apply dr_keep | apply dr_drop))) _ _ h, e, 0, s1, roll_b hL hne hx0 hx1, rfl, rfl⟩
end Rg
end Go.Vl

set_option linter.unusedVariables false
set_option linter.unusedSimpArgs false
namespace Go.Vl
open Go Go.Proofs
theorem need_val : ∀ {l : List (Int × Int)} {s : Int}, (∀ x ∈ l, 1 ≤ x.2 ∧ x.2 ≤ 4194304) → 0 ≤ s → s + (needN l : Nat) ≤ 4611686018427387904 → needF (lensX l) s = (s + (needN l : Nat), 0)
  | [], s, _, _, _ => by
    show (s, (0 : Int)) = (s + ((0 : Nat) : Int), 0)
    rw [show s + ((0 : Nat) : Int) = s by omega]
  | x :: l, s, hx, h0, hs => by
    have h1 := hx x (by simp)
    obtain ⟨n, hn⟩ := Int.eq_ofNat_of_zero_le (show 0 ≤ x.2 by omega)
    have hc : lensX (x :: l) = (n : Int) :: lensX l := by unfold lensX; rw [List.map_cons, hn]
    have hu := up8_le n
    have e : rndS n = (((up8 n : Nat) : Int), 0) := by unfold rndS; have : pad8 n < 8 := (by unfold pad8; omega); rw [if_neg (by omega)]
    rw [needN_cons, hn, Int.toNat_natCast] at hs ⊢
    rw [hc, needF_cons (by omega), e, if_neg (by simp only [ne_eq, not_true, false_or]; omega)]
    simp only
    rw [need_val (fun x hx' => hx x (List.mem_cons_of_mem _ hx')) (by omega) (by omega)]
    congr 1; omega
theorem need_may {n at_ sz : Nat} {l : List (Int × Int)} (hn : n ≤ 4194304) (hl : l.all (mayX n at_ sz) = true) (hN : needN l ≤ 4194304) : needS (lensX l) = (((needN l : Nat) : Int), 0) := by
  unfold needS
  rw [need_val (fun x hx => by obtain ⟨p, m, rfl, _, h1, h2, _⟩ := may_nat (List.all_eq_true.1 hl x hx); exact ⟨by show (1 : Int) ≤ (m : Int); omega, by show (m : Int) ≤ 4194304; omega⟩) (by decide) (by omega)]
  congr 1; omega
/-! ### What a record reads -/
theorem take_app {a b : List Nat} {n : Nat} (h : a.length = n) : (a ++ b).take n = a := List.take_left' h
theorem drop_app {a b : List Nat} {n : Nat} (h : a.length = n) : (a ++ b).drop n = b := List.drop_left' h
theorem read_rec {n at_ sz p w : Nat} {room old rest : List Nat} (hn : n ≤ 4194304) (hd : room.drop p = recS w old ++ rest) (hm : mayX n at_ sz ((w : Int), ((old.length : Nat) : Int)) = true) : readS n at_ sz room p = some ((w, old), 24 + up8 old.length) := by
  obtain ⟨w', m', hz, y1, y2, y3, y4⟩ := may_nat hm
  simp only [Prod.mk.injEq, Int.ofNat_inj] at hz
  obtain ⟨z1, z2⟩ := hz
  have hrl := recS_len w old
  have hlen : room.length - p = (24 + up8 old.length) + rest.length := by
    have := congrArg List.length hd
    rw [List.length_drop, List.length_append, hrl] at this; exact this
  have hu := up8_le old.length
  have hd8 : room.drop (p + 8) = le 8 old.length ++ (le 8 (crc 0 (recH w old.length ++ old)) ++ old ++ List.replicate (pad8 old.length) 0 ++ rest) := by
    rw [← List.drop_drop, hd, recS_eq]
    unfold recH
    simp only [List.append_assoc]
    rw [drop_app (le_length 8 _)]
  have hd24 : room.drop (p + 24) = old ++ (List.replicate (pad8 old.length) 0 ++ rest) := by
    rw [← List.drop_drop, hd, recS_eq]
    rw [List.append_assoc, List.append_assoc, drop_app (by rw [List.length_append, recH_len, le_length])]
  have e1 : nm ((room.drop p).take 8) = w := by
    rw [hd, recS_eq]; unfold recH
    simp only [List.append_assoc]
    rw [take_app (le_length 8 _), nm_le]
    exact Nat.mod_eq_of_lt (by have : (256 : Nat) ^ 8 = 18446744073709551616 := by decide
                               omega)
  have e2 : nm ((room.drop (p + 8)).take 8) = old.length := by
    rw [hd8, take_app (le_length 8 _), nm_le]
    exact Nat.mod_eq_of_lt (by have : (256 : Nat) ^ 8 = 18446744073709551616 := by decide
                               omega)
  have e3 : (room.drop (p + 24)).take old.length = old := by rw [hd24, take_app rfl]
  have e4 : (room.drop p).take (24 + up8 old.length) = recS w old := by rw [hd, take_app hrl]
  have := read_good (n := n) (at_ := at_) (sz := sz) e1 e2 (by omega) hm (by omega) (by rw [e3, e4])
  rw [e3] at this; exact this
def oldsL (I : List Nat) (l : List (Int × Int)) : List (Nat × List Nat) := l.map fun x => (x.1.toNat, (I.drop x.1.toNat).take x.2.toNat)
theorem recs_of {n at_ sz : Nat} {I room : List Nat} (hn : n ≤ 4194304) (hI : I.length = n) : ∀ {l : List (Int × Int)} {p : Nat} {rest : List Nat}, l.all (mayX n at_ sz) = true → room.drop p = recsB I l ++ rest → recsF n at_ sz room l.length p = (oldsL I l, 0)
  | [], _, _, _, _ => rfl
  | x :: l, p, rest, hl, hd => by
    rw [List.all_cons, Bool.and_eq_true] at hl
    obtain ⟨q, m, rfl, y1, y2, y3, y4⟩ := may_nat hl.1
    have hol : ((I.drop q).take m).length = m := by rw [List.length_take, List.length_drop]; omega
    rw [recsB_cons, List.append_assoc] at hd
    simp only [Int.toNat_natCast] at hd
    have hr := read_rec (at_ := at_) (sz := sz) hn hd (by rw [hol]; exact hl.1)
    rw [hol] at hr
    have hd2 : room.drop (p + (24 + up8 m)) = recsB I l ++ rest := by
      rw [← List.drop_drop, hd, drop_app (by rw [recS_len, hol])]
    have ih := recs_of hn hI hl.2 hd2
    rw [List.length_cons]
    have e : recsF n at_ sz room (l.length + 1) p = match readS n at_ sz room p with
      | none => ([], 110)
      | some (x, t) => if (recsF n at_ sz room l.length (p + t)).2 ≠ 0 then ([], 110) else (x :: (recsF n at_ sz room l.length (p + t)).1, 0) := rfl
    rw [e, hr]
    simp only
    rw [ih, if_neg (by simp)]
    rfl
/-- What a log tells, by its image. -/
theorem records_of {at_ sz : Nat} {I : List Nat} {l : List (Int × Int)} {s : DevS} (hw : WfD s) (hO : s.off = false) (hlw : LogW (s.ls.length * 64) at_ sz) (hI : I.length = s.ls.length * 64) (hl : l.all (mayX (s.ls.length * 64) at_ sz) = true) (hN : needN l ≤ sz - 64)
    (h1 : nm (((imgS s).drop at_).take 8) = l.length) (h2 : ((imgS s).drop (at_ + 64)).take (needN l) = recsB I l) : recordsS at_ sz s = (oldsL I l, 0) := by
  have htop := hw.top
  have ht := hlw.top; have hsz := hlw.s; have ham := hlw.am
  unfold recordsS
  rw [if_neg (by rw [hO]; decide), word_in hO (by omega) (by omega), h1]
  refine recs_of (rest := (((imgS s).drop (at_ + 64)).drop (needN l)).take (sz - 64 - needN l)) (by omega) hI hl ?_
  unfold roomS
  rw [List.drop_zero, ← h2]
  rw [show sz - 64 = needN l + (sz - 64 - needN l) by omega, List.take_add]
  congr 1
  congr 1
  omega
theorem records_none {at_ sz : Nat} {s : DevS} (hO : s.off = false) (hlw : LogW (s.ls.length * 64) at_ sz) (h1 : nm (((imgS s).drop at_).take 8) = 0) : recordsS at_ sz s = ([], 0) := by
  have ht := hlw.top; have hsz := hlw.s; have ham := hlw.am
  unfold recordsS
  rw [if_neg (by rw [hO]; decide), word_in hO (by omega) (by omega), h1]; rfl
/-! ### A Write -/
def wrI1 (at_ : Nat) (I : List Nat) (l : List (Int × Int)) : List Nat := spl I (at_ + 64) (recsB I l)
def wrI (at_ : Nat) (I : List Nat) (l : List (Int × Int)) : List Nat := spl (wrI1 at_ I l) at_ (le 8 l.length)
theorem write_loss {at_ sz : Nat} {l : List (Int × Int)} {s : DevS} (hw : WfD s) (hO : s.off = false) (hc : Cln s) (hlw : LogW (s.ls.length * 64) at_ sz) (hl : l.all (mayX (s.ls.length * 64) at_ sz) = true) (hne : l ≠ []) (hN : needN l ≤ sz - 64) (h0 : nm (((imgS s).drop at_).take 8) = 0) (hroom : Room (needN l + 1) s) :
    ∃ e s2, writeS at_ sz l s = (e, s2) ∧ WfD s2 ∧ s2.ls.length = s.ls.length ∧ Cln s2 ∧ ((e = 0 ∧ s2.off = false ∧ imgS s2 = wrI at_ (imgS s) l) ∨ (e = 5 ∧ s2.off = true ∧ (Out (at_ + 64) (at_ + sz) (imgS s2) (imgS s) ∨ imgS s2 = wrI at_ (imgS s) l))) := by
  have htop := hw.top
  have ht := hlw.top; have hsz := hlw.s; have ham := hlw.am
  have hil := imgS_len hw
  have hwd := word_in (s := s) (p := at_) hO (by omega) (by omega)
  have hnd := need_may (n := s.ls.length * 64) (by omega) hl (by omega)
  have hrl := recsB_len hil hl
  have hl1 : 1 ≤ needN l := Nat.le_trans (List.length_pos_iff.2 hne) (needN_ge l)
  have hllt : l.length < 18446744073709551616 := Nat.lt_of_le_of_lt (needN_ge l) (by omega)
  obtain ⟨I0, hI0⟩ : ∃ I, imgS s = I := ⟨_, rfl⟩
  rw [hI0] at hil hrl h0
  have hI1l : (wrI1 at_ I0 l).length = s.ls.length * 64 := by unfold wrI1; rw [spl_length (by omega), hil]
  obtain ⟨e1, s1, g1, g2⟩ := put_loss (X := fun q c => ∀ j, j < 64 → ¬ (at_ + 64 ≤ q * 64 + j ∧ q * 64 + j < at_ + sz) → c[j]? = I0[q * 64 + j]?) (I0 := I0) (l := l) (q := at_ + 64) (r := 1) (s := s) hw hO
    (poss_cln hw hc fun q hq j hj _ => by rw [chunk_at hj, hI0]) hlw hl (Nat.le_refl _) (by omega) (fun l hl => by have := hroom l hl; omega) (by rw [hI0]; exact Out.refl _ _ _) hil
    (fun I hI hout q hq j hj hn => by rw [chunk_at hj]; exact hout _ hn)
  have hlost : ∀ {s2 : DevS}, Lost (fun q c => ∀ j, j < 64 → ¬ (at_ + 64 ≤ q * 64 + j ∧ q * 64 + j < at_ + sz) → c[j]? = I0[q * 64 + j]?) s.ls.length s2 → WfD s2 ∧ s2.ls.length = s.ls.length ∧ Cln s2 ∧ s2.off = true ∧ Out (at_ + 64) (at_ + sz) (imgS s2) I0 := fun {s2} h => by
    obtain ⟨b1, b2, b3, b4, b5⟩ := h
    refine ⟨b2, b5, b3, b1, fun i hi => ?_⟩
    have hil2 := imgS_len b2
    rcases Nat.lt_or_ge i (s.ls.length * 64) with h1 | h1
    · have := poss_img b2 b4 (q := i / 64) (by omega) (i % 64) (by omega) (by rw [show i / 64 * 64 + i % 64 = i by omega]; exact hi)
      rw [chunk_at (by omega), show i / 64 * 64 + i % 64 = i by omega] at this
      exact this
    · rw [List.getElem?_eq_none (by omega), List.getElem?_eq_none (by omega)]
  have hW : writeS at_ sz l s = if (putF (at_ + 64) l s).1 ≠ 0 then putF (at_ + 64) l s
      else if (rangeP ((at_ + 64 : Nat) : Int) (needN l : Nat) (putF (at_ + 64) l s).2).1 ≠ 0 then rangeP ((at_ + 64 : Nat) : Int) (needN l : Nat) (putF (at_ + 64) l s).2
      else pubP (at_ : Nat) l.length (rangeP ((at_ + 64 : Nat) : Int) (needN l : Nat) (putF (at_ + 64) l s).2).2 := by
    unfold writeS
    rw [if_neg (by rw [hO]; decide), hwd, hI0, if_neg (by rw [h0]; simp), if_neg (by rw [hl]; decide), hnd, if_neg (by simp only [ne_eq, not_true, false_or]; omega), if_neg hne]
  rw [hW, g1]
  simp only []
  rcases g2 with ⟨a1, a2, a3, a4, a5, a6, a7, a8⟩ | ⟨a1, a2⟩
  · subst a1
    rw [if_neg (by simp)]
    have hrg : rangeP ((at_ + 64 : Nat) : Int) (needN l : Nat) s1 = lastS (at_ + 64) (needN l) s1 := by
      unfold rangeP
      rw [if_neg (by rw [a2]; decide), if_neg (by omega), rdy_ok (by omega) (by omega) (by rw [a5]; omega), if_neg (by decide), Int.toNat_natCast, Int.toNat_natCast]
    obtain ⟨e2, s2, k1, k2⟩ := lastS_loss (p := at_ + 64) (m := needN l) a3 a2 a4 hl1 (by rw [a5]; omega) (fun q ln hq hln => by rw [a6 q hq] at hln; exact hc ln (List.mem_of_getElem? hln))
    have hrm2 : Room 1 s2 := rangeP_room (p := ((at_ + 64 : Nat) : Int)) (m := (needN l : Nat)) (by rw [hrg]; exact k1) a3 a7
    rw [hrg, k1]
    simp only []
    rw [a5] at k2
    rcases k2 with ⟨b1, b2, b3, b4, b5, b6⟩ | ⟨b1, b2⟩
    · subst b1
      rw [if_neg (by simp)]
      have hi2 : imgS s2 = wrI1 at_ I0 l := by rw [b6, a8, hI0]; rfl
      obtain ⟨e3, s3, c1, c2⟩ := pub_loss (X := fun q c => c = chunk q (wrI1 at_ I0 l) ∨ c = chunk q (wrI at_ I0 l)) (p := at_) (v := l.length) (s := s2) b3 b2
        (poss_cln b3 b4 fun q hq => .inl (by rw [hi2])) (fun q ln _ hln => b4 ln (List.mem_of_getElem? hln)) (by omega) (by rw [b5]; omega) hllt hrm2 (.inr (by rw [hi2]; rfl))
      refine ⟨e3, s3, c1, ?_⟩
      rw [b5] at c2
      rcases c2 with ⟨d1, d2, d3, d4, d5, d6⟩ | ⟨d1, d2, d3, d4, d5, d6⟩
      · exact ⟨d3, d5, d4, .inl ⟨d1, d2, by rw [d6, hi2, hI0]; rfl⟩⟩
      · refine ⟨d3, d6, d4, .inr ⟨d1, d2, ?_⟩⟩
        have hil3 := imgS_len d3
        have hI2l : (wrI at_ I0 l).length = s.ls.length * 64 := by unfold wrI; rw [spl_length (by rw [le_length]; omega), hI1l]
        have hoth : ∀ q, q ≠ at_ / 64 → chunk q (wrI at_ I0 l) = chunk q (wrI1 at_ I0 l) := fun q hq => by unfold wrI; exact chunk_spl (by rw [le_length]; omega) (by rw [le_length]; omega)
        have hq : ∀ q, q < s.ls.length → chunk q (imgS s3) = chunk q (wrI1 at_ I0 l) ∨ chunk q (imgS s3) = chunk q (wrI at_ I0 l) := fun q hq => poss_img d3 d5 (by rw [d6]; exact hq)
        rw [hI0]
        rcases hq (at_ / 64) (by omega) with h1 | h1
        · left
          have : imgS s3 = wrI1 at_ I0 l := img_ext (n := s.ls.length) (by rw [hil3, d6]) hI1l fun q hql => by
            by_cases e : q = at_ / 64
            · rw [e]; exact h1
            · rcases hq q hql with h2 | h2
              · exact h2
              · rw [h2, hoth q e]
          rw [this]; unfold wrI1; exact out_spl (by omega) (Nat.le_refl _) (by omega)
        · right
          exact img_ext (n := s.ls.length) (by rw [hil3, d6]) hI2l fun q hql => by
            by_cases e : q = at_ / 64
            · rw [e]; exact h1
            · rcases hq q hql with h2 | h2
              · rw [h2, hoth q e]
              · exact h2
    · subst b1
      rw [if_pos (by decide)]
      obtain ⟨c1, c2, c3, c4, c5⟩ := hlost b2
      exact ⟨5, s2, rfl, c1, c2, c3, .inr ⟨rfl, c4, .inl (by rw [hI0]; exact c5)⟩⟩
  · subst a1
    rw [if_pos (by decide)]
    obtain ⟨c1, c2, c3, c4, c5⟩ := hlost a2
    exact ⟨5, s1, rfl, c1, c2, c3, .inr ⟨rfl, c4, .inl (by rw [hI0]; exact c5)⟩⟩
end Go.Vl

set_option linter.unusedVariables false
set_option linter.unusedSimpArgs false
namespace Go.Vl
open Go Go.Proofs
theorem flL_loss {X : Nat → List Nat → Prop} : ∀ (k q : Nat) (s : DevS), WfD s → s.off = false → Poss X s → q + k ≤ s.ls.length →
    ∃ e s2, flL k q s = (e, s2) ∧ ((e = 0 ∧ s2.off = false ∧ WfD s2 ∧ s2.ls = flsh k q s.ls) ∨ (e = 5 ∧ Lost X s.ls.length s2))
  | 0, q, s, hw, hO, hP, h => ⟨0, s, rfl, .inl ⟨rfl, hO, hw, (flsh_zero q s.ls).symm⟩⟩
  | k + 1, q, s, hw, hO, hP, h => by
    have hq : q < s.ls.length := by omega
    have hs : flushS (q * 64) s = { s with ls := s.ls.set q (flushL s.ls[q]) } := by
      unfold flushS; rw [show q * 64 / 64 = q by omega, onLine_at hq]
    have hwF := flushS_wf (p := q * 64) hw
    have hPF : Poss X (flushS (q * 64) s) := poss_sub hP fun j l' hl' => by
      rw [hs] at hl'
      by_cases e : q = j
      · subst e
        rw [List.getElem?_set_self hq] at hl'
        have := Option.some.inj hl'
        subst this
        exact ⟨_, List.getElem?_eq_getElem hq, fun σ h => h⟩
      · rw [List.getElem?_set_ne e] at hl'
        exact ⟨l', hl', fun σ h => h⟩
    have hlF : (flushS (q * 64) s).ls.length = s.ls.length := by rw [hs]; simp
    have hf1 : fl1 ((q * 64 : Nat) : Int) s = (doneE (flushS (q * 64) s), doneS (flushS (q * 64) s)) := by
      unfold fl1
      rw [hO, rdy_ok (by omega) (by omega) (by omega), if_neg (by simp), Int.toNat_natCast]
    show ∃ e s2, (if (fl1 ((q * 64 : Nat) : Int) s).1 ≠ 0 then fl1 ((q * 64 : Nat) : Int) s else flL k (q + 1) (fl1 ((q * 64 : Nat) : Int) s).2) = (e, s2) ∧ _
    rw [hf1]
    rcases done_loss hwF hPF with ⟨h1, h2, h3⟩ | ⟨h1, h2⟩
    · simp only []
      rw [h1, if_neg (by decide)]
      obtain ⟨e, s2, g1, g2⟩ := flL_loss (X := X) k (q + 1) (doneS (flushS (q * 64) s)) (doneS_wf hwF) (by rw [h3, hs]; exact hO) (fun j l hl σ hσ => by rw [h2] at hl; exact hPF j l hl σ hσ) (by rw [h2, hlF]; omega)
      refine ⟨e, s2, g1, ?_⟩
      rcases g2 with ⟨a1, a2, a3, a4⟩ | ⟨a1, a2⟩
      · exact .inl ⟨a1, a2, a3, by rw [a4, h2, hs]; simp only []; rw [flsh_step hq]⟩
      · exact .inr ⟨a1, by rw [h2, hlF] at a2; exact a2⟩
    · simp only []
      rw [h1, if_pos (by decide)]
      exact ⟨5, _, rfl, .inr ⟨rfl, by rw [hlF] at h2; exact h2⟩⟩
/-- A line is flushed, up to its last content. -/
def Mkd (j : Nat) (s : DevS) : Prop := ∀ l, s.ls[j]? = some l → l.mark = (l.st.length : Int) - 1
theorem back_loss {X : Nat → List Nat → Prop} {p r : Nat} {b : List Nat} {s : DevS} (hw : WfD s) (hO : s.off = false) (hP : Poss X s) (hb : ∀ x ∈ b, x < 256) (h1 : 1 ≤ b.length) (hp : p + b.length ≤ s.ls.length * 64) (hr : Room (r + b.length) s)
    (hX : ∀ k j, 0 < k → k ≤ b.length → j < s.ls.length → X j (chunk j (spl (imgS s) p (b.take k)))) :
    ∃ e s2, backS (p, b) s = (e, s2) ∧ ((e = 0 ∧ s2.off = false ∧ WfD s2 ∧ Poss X s2 ∧ s2.ls.length = s.ls.length ∧ Room r s2 ∧ imgS s2 = spl (imgS s) p b ∧ (∀ j : Nat, (j + 1) * 64 ≤ p ∨ p + b.length ≤ j * 64 → s2.ls[j]? = s.ls[j]?) ∧ (∀ j : Nat, ¬ ((j + 1) * 64 ≤ p ∨ p + b.length ≤ j * 64) → Mkd j s2)) ∨ (e = 5 ∧ Lost X s.ls.length s2)) := by
  obtain ⟨e, s1, g1, g2⟩ := storeF_loss (X := X) b.length (p := p) (r := r) rfl hw hO hb hr hp hP (fun k j k0 k1 _ hj => hX k j k0 k1 hj)
  have hst : sto (p : Nat) b s = (e, s1) := by
    unfold sto; rw [hO, rdy_ok (by omega) (by omega) (by omega), if_neg (by decide), Int.toNat_natCast]; exact g1
  unfold backS
  simp only []
  rw [hst]
  rcases g2 with ⟨a1, ⟨a2, a3, a4, a5, a6⟩, a7, a8⟩ | ⟨a1, a2⟩
  · subst a1
    rw [if_neg (by simp)]
    unfold flushX
    obtain ⟨e, s2, k1, k2⟩ := flL_loss (X := X) ((p + b.length - 1) / 64 - p / 64 + 1) (p / 64) s1 a3 a2 a4 (by rw [a5]; omega)
    refine ⟨e, s2, k1, ?_⟩
    rw [a5] at k2
    rcases k2 with ⟨b1, b2, b3, b4⟩ | k2
    · have hlen : s2.ls.length = s.ls.length := by rw [b4, flsh_len, a5]
      have hget : ∀ j l', s2.ls[j]? = some l' → ∃ l, s1.ls[j]? = some l ∧ l' = if p / 64 ≤ j ∧ j < p / 64 + ((p + b.length - 1) / 64 - p / 64 + 1) then flushL l else l := fun j l' hl => by
        rw [b4] at hl; exact flsh_get hl
      refine .inl ⟨b1, b2, b3, fun j l' hl σ hσ => ?_, hlen, ?_, ?_, fun j hj => ?_, fun j hj l' hl => ?_⟩
      · obtain ⟨l, e1, e2⟩ := hget j l' hl
        refine a4 j l e1 σ ?_
        subst e2; split at hσ
        · exact hσ
        · exact hσ
      · intro l' hl
        obtain ⟨j, hj, rfl⟩ := List.mem_iff_getElem.1 hl
        obtain ⟨l, e1, e2⟩ := hget j _ (List.getElem?_eq_getElem hj)
        have := a7 l (List.mem_of_getElem? e1)
        rw [e2]; split
        · exact this
        · exact this
      · rw [← a8]; unfold imgS; rw [b4]
        exact img_seen (flsh_seen _ _ _)
      · rw [← a6 j hj, b4]
        cases e : (flsh ((p + b.length - 1) / 64 - p / 64 + 1) (p / 64) s1.ls)[j]? with
        | none => rw [List.getElem?_eq_none]; rw [List.getElem?_eq_none_iff, flsh_len] at e; exact e
        | some l' =>
          obtain ⟨l, e1, e2⟩ := flsh_get e
          rw [if_neg (by omega)] at e2
          rw [e1, e2]
      · obtain ⟨l, e1, e2⟩ := hget j l' hl
        rw [if_pos (by omega)] at e2
        rw [e2]; rfl
    · exact .inr k2
  · subst a1
    rw [if_pos (show (5 : Int) ≠ 0 by decide)]
    exact ⟨5, s1, rfl, .inr ⟨rfl, a2⟩⟩
/-! ### The bytes of extents -/
def InX (L : List (Nat × List Nat)) (i : Nat) : Prop := ∃ x ∈ L, x.1 ≤ i ∧ i < x.1 + x.2.length
/-- What a line may hold: outside the extents, what the image has. -/
def XU (L : List (Nat × List Nat)) (I : List Nat) (q : Nat) (c : List Nat) : Prop := ∀ j, j < 64 → ¬ InX L (q * 64 + j) → c[j]? = I[q * 64 + j]?
/-- Outside the extents all is as the image has it. -/
structure AS (L : List (Nat × List Nat)) (I : List Nat) (s : DevS) : Prop where
  wf : WfD s
  len : I.length = s.ls.length * 64
  poss : Poss (XU L I) s
  one : ∀ (q : Nat) (l : LineS), (∀ i, InX L i → i / 64 ≠ q) → s.ls[q]? = some l → l.st.length = 1
theorem AS.img {L : List (Nat × List Nat)} {I : List Nat} {s : DevS} (h : AS L I s) {i : Nat} (hi : ¬ InX L i) : (imgS s)[i]? = I[i]? := by
  have hil := imgS_len h.wf
  have hl := h.len
  rcases Nat.lt_or_ge i (s.ls.length * 64) with h1 | h1
  · have := poss_img h.wf h.poss (q := i / 64) (by omega) (i % 64) (by omega) (by rw [show i / 64 * 64 + i % 64 = i by omega]; exact hi)
    rw [chunk_at (by omega), show i / 64 * 64 + i % 64 = i by omega] at this
    exact this
  · rw [List.getElem?_eq_none (by omega), List.getElem?_eq_none (by omega)]
theorem AS.sub {L : List (Nat × List Nat)} {I : List Nat} {s : DevS} (h : AS L I s) {p m : Nat} (hd : ∀ i, p ≤ i → i < p + m → ¬ InX L i) : ((imgS s).drop p).take m = (I.drop p).take m := by
  apply List.ext_getElem?
  intro i
  rw [List.getElem?_take, List.getElem?_take]
  split
  · rw [List.getElem?_drop, List.getElem?_drop]; exact h.img (hd _ (by omega) (by omega))
  · rfl
theorem as_lost {L : List (Nat × List Nat)} {I : List Nat} {n : Nat} {s : DevS} (h : Lost (XU L I) n s) (hI : I.length = n * 64) : AS L I s := by
  obtain ⟨_, h2, h3, h4, h5⟩ := h
  exact ⟨h2, by rw [h5]; exact hI, h4, fun q l _ hl => h3 l (List.mem_of_getElem? hl)⟩
theorem as_cln {L : List (Nat × List Nat)} {I : List Nat} {s : DevS} (hw : WfD s) (hc : Cln s) (hI : imgS s = I) : AS L I s :=
  ⟨hw, by rw [← hI]; exact imgS_len hw, poss_cln hw hc fun q hq j hj _ => by rw [chunk_at hj, hI], fun q l _ hl => hc l (List.mem_of_getElem? hl)⟩
theorem xu_spl {L : List (Nat × List Nat)} {I : List Nat} {s : DevS} (h : AS L I s) {p : Nat} {b : List Nat} (hp : p + b.length ≤ s.ls.length * 64) (hin : ∀ i, p ≤ i → i < p + b.length → InX L i) : ∀ k j, 0 < k → k ≤ b.length → j < s.ls.length → XU L I j (chunk j (spl (imgS s) p (b.take k))) := fun k j _ k1 hj i hi hn => by
  have hil := imgS_len h.wf
  have hkl : (b.take k).length = k := by rw [List.length_take]; omega
  rw [chunk_at hi, spl_at (by omega), if_neg (fun hc => hn (hin _ hc.1 (by omega)))]
  exact h.img hn
/-- Some records are back. -/
structure Got (D : List (Nat × List Nat)) (I : List Nat) (s : DevS) : Prop where
  img : ∀ i, InX D i → (imgS s)[i]? = I[i]?
  mkd : ∀ i, InX D i → Mkd (i / 64) s
theorem backF_loss {L : List (Nat × List Nat)} {I : List Nat} : ∀ {l D : List (Nat × List Nat)} {r : Nat} {s : DevS}, AS L I s → s.off = false → (∀ x ∈ l, x ∈ L ∧ 1 ≤ x.2.length ∧ x.1 + x.2.length ≤ s.ls.length * 64 ∧ (∀ b ∈ x.2, b < 256) ∧ x.2 = (I.drop x.1).take x.2.length) → Room (r + sumL l) s → Got D I s →
    ∃ e s2, backF l s = (e, s2) ∧ ((e = 0 ∧ s2.off = false ∧ AS L I s2 ∧ s2.ls.length = s.ls.length ∧ Room r s2 ∧ Got (l ++ D) I s2) ∨ (e = 5 ∧ Lost (XU L I) s.ls.length s2))
  | [], D, r, s, hA, hO, _, hr, hG => ⟨0, s, rfl, .inl ⟨rfl, hO, hA, rfl, fun l hl => by have := hr l hl; omega, hG⟩⟩
  | x :: l, D, r, s, hA, hO, hl, hr, hG => by
    obtain ⟨m1, m2, m3, m4, m5⟩ := hl x (by simp)
    rw [sumL_cons] at hr
    have hil := imgS_len hA.wf
    have hIl := hA.len
    have hin : ∀ i, x.1 ≤ i → i < x.1 + x.2.length → InX L i := fun i h1 h2 => ⟨x, m1, h1, h2⟩
    obtain ⟨e, s1, g1, g2⟩ := back_loss (X := XU L I) (r := r + sumL l) hA.wf hO hA.poss m4 m2 m3 (fun l hl => by have := hr l hl; omega) (xu_spl hA m3 hin)
    rcases g2 with ⟨a1, a2, a3, a4, a5, a6, a7, a8, a9⟩ | ⟨a1, a2⟩
    · subst a1
      rw [backF_o (x := x) g1]
      have hA1 : AS L I s1 := ⟨a3, by rw [a5]; exact hIl, a4, fun q ln hq hln => by
        by_cases hj : (q + 1) * 64 ≤ x.1 ∨ x.1 + x.2.length ≤ q * 64
        · rw [a8 q hj] at hln; exact hA.one q ln hq hln
        · exact absurd (show max x.1 (q * 64) / 64 = q by omega) (hq (max x.1 (q * 64)) ⟨x, m1, by omega, by omega⟩)⟩
      have hG1 : Got (x :: D) I s1 := by
        refine ⟨fun i hi => ?_, fun i hi => ?_⟩
        · rw [a7, spl_at (by omega)]
          by_cases hc : x.1 ≤ i ∧ i < x.1 + x.2.length
          · rw [if_pos hc]
            have : x.2[i - x.1]? = ((I.drop x.1).take x.2.length)[i - x.1]? := by rw [← m5]
            rw [this, List.getElem?_take, if_pos (by omega), List.getElem?_drop, show x.1 + (i - x.1) = i by omega]
          · rw [if_neg hc]
            obtain ⟨y, hy, y1, y2⟩ := hi
            rcases List.mem_cons.1 hy with rfl | hy
            · exact absurd ⟨y1, y2⟩ hc
            · exact hG.img i ⟨y, hy, y1, y2⟩
        · by_cases hj : (i / 64 + 1) * 64 ≤ x.1 ∨ x.1 + x.2.length ≤ i / 64 * 64
          · obtain ⟨y, hy, y1, y2⟩ := hi
            rcases List.mem_cons.1 hy with rfl | hy
            · omega
            · intro ln hln
              rw [a8 _ hj] at hln
              exact hG.mkd i ⟨y, hy, y1, y2⟩ ln hln
          · exact a9 _ hj
      obtain ⟨e, s2, k1, k2⟩ := backF_loss (l := l) (D := x :: D) (r := r) hA1 a2 (fun y hy => by rw [a5]; exact hl y (List.mem_cons_of_mem _ hy)) a6 hG1
      refine ⟨e, s2, k1, ?_⟩
      rw [a5] at k2
      rcases k2 with ⟨b1, b2, b3, b4, b5, b6⟩ | k2
      · refine .inl ⟨b1, b2, b3, b4, b5, ⟨fun i hi => b6.img i ?_, fun i hi => b6.mkd i ?_⟩⟩ <;>
        · obtain ⟨y, hy, h12⟩ := hi
          refine ⟨y, ?_, h12⟩
          simp only [List.mem_append, List.mem_cons] at hy ⊢
          rcases hy with (h | h) | h
          · exact .inr (.inl h)
          · exact .inl h
          · exact .inr (.inr h)
      · exact .inr k2
    · subst a1
      exact ⟨5, s1, backF_e (x := x) g1 (by decide), .inr ⟨rfl, a2⟩⟩
theorem roll_loss {at_ sz : Nat} {L : List (Nat × List Nat)} {I : List Nat} {s : DevS} (hA : AS L I s) (hO : s.off = false) (hlw : LogW (s.ls.length * 64) at_ sz) (hr : Room (sumL L + 1) s) (hne : L ≠ []) (hrec : recordsS at_ sz s = (L, 0))
    (hL : ∀ x ∈ L, mayX (s.ls.length * 64) at_ sz ((x.1 : Int), ((x.2.length : Nat) : Int)) = true ∧ (∀ b ∈ x.2, b < 256) ∧ x.2 = (I.drop x.1).take x.2.length) :
    ∃ k e s2, rollS at_ sz s = ((k, e), s2) ∧ s2.ls.length = s.ls.length ∧ ((e = 0 ∧ k = L.length ∧ s2.off = false ∧ WfD s2 ∧ Cln s2 ∧ imgS s2 = spl I at_ (le 8 0)) ∨ (e = 5 ∧ s2.off = true ∧ ((AS L I s2 ∧ Cln s2) ∨ (WfD s2 ∧ Cln s2 ∧ imgS s2 = spl I at_ (le 8 0))))) := by
  have htop := hA.wf.top
  have ht := hlw.top; have hsz := hlw.s; have ham := hlw.am
  have hIl := hA.len
  obtain ⟨e, s1, g1, g2⟩ := backF_loss (l := L.reverse) (D := []) (r := 1) hA hO (fun x hx => by
    have hx := List.mem_reverse.1 hx
    obtain ⟨h1, h2, h3⟩ := hL x hx
    obtain ⟨p, m, hz, y1, y2, y3, y4⟩ := may_nat h1
    simp only [Prod.mk.injEq, Int.ofNat_inj] at hz
    exact ⟨hx, by omega, by omega, h2, h3⟩) (fun l hl => by have := hr l hl; rw [sumL_rev]; omega) ⟨fun i hi => by obtain ⟨x, hx, _⟩ := hi; simp at hx, fun i hi => by obtain ⟨x, hx, _⟩ := hi; simp at hx⟩
  rcases g2 with ⟨a1, a2, a3, a4, a5, a6⟩ | ⟨a1, a2⟩
  · subst a1
    rw [List.append_nil] at a6
    have hinr : ∀ i, InX L i ↔ InX L.reverse i := fun i => by
      constructor
      · rintro ⟨x, hx, h⟩; exact ⟨x, List.mem_reverse.2 hx, h⟩
      · rintro ⟨x, hx, h⟩; exact ⟨x, List.mem_reverse.1 hx, h⟩
    have hi1 : imgS s1 = I := by
      apply List.ext_getElem?
      intro i
      by_cases hi : InX L i
      · exact a6.img i ((hinr i).1 hi)
      · exact a3.img hi
    -- the fence
    have hwf := fence_wf a3.wf
    have hPf : Poss (XU L I) (fenceS s1) := poss_sub a3.poss fun q l' hl' => by
      obtain ⟨l, h1, rfl⟩ := fence_get hl'; exact ⟨l, h1, fence_mem⟩
    have hfe : fe s1 = (doneE (fenceS s1), doneS (fenceS s1)) := by unfold fe; rw [if_neg (by rw [a2]; decide)]
    have hfl : (fenceS s1).ls.length = s.ls.length := by simp [fenceS, a4]
    rcases done_loss hwf hPf with ⟨b1, b2, b3⟩ | ⟨b1, b2⟩
    · have hfe2 : fe s1 = (0, doneS (fenceS s1)) := by rw [hfe, b1]
      obtain ⟨s2, hs2⟩ : ∃ s2, doneS (fenceS s1) = s2 := ⟨_, rfl⟩
      have hw2 : WfD s2 := hs2 ▸ doneS_wf hwf
      rw [hs2] at hfe2 b2 b3
      have hl2 : s2.ls.length = s.ls.length := by rw [b2, hfl]
      have hoff2 : s2.off = false := by rw [b3]; exact a2
      have hi2 : imgS s2 = I := by
        rw [← hi1]; unfold imgS; rw [b2]
        show img (s1.ls.map fenceL) = _
        refine img_seen ?_
        rw [List.map_map]
        exact List.map_congr_left fun l hl => seen_fence (a3.wf.line l hl)
      have hc2 : Cln s2 := fun l' hl' => by
        rw [b2] at hl'
        obtain ⟨q, hq, rfl⟩ := List.mem_iff_getElem.1 hl'
        obtain ⟨l, e1, e2⟩ := fence_get (show (s1.ls.map fenceL)[q]? = some _ from List.getElem?_eq_getElem hq)
        have hwl := a3.wf.line l (List.mem_of_getElem? e1)
        have hpl := List.length_pos_iff.2 hwl.ne
        rw [e2]
        by_cases hU : ∀ i, InX L i → i / 64 ≠ q
        · have h1 := a3.one q l hU e1
          unfold fenceL; split
          · have := hwl.hi; simp only [List.length_drop]; omega
          · exact h1
        · have : ∃ i, InX L i ∧ i / 64 = q := by
            apply Classical.byContradiction
            intro hn
            exact hU fun i hi he => hn ⟨i, hi, he⟩
          obtain ⟨i, hi, rfl⟩ := this
          have h1 := a6.mkd i ((hinr i).1 hi) l e1
          unfold fenceL
          rw [if_pos (by omega)]
          simp only [List.length_drop]; omega
      have hr2 : Room 1 s2 := fe_room hfe2 a3.wf a5
      obtain ⟨e3, s3, c1, c2⟩ := pub_loss (X := fun q c => c = chunk q I ∨ c = chunk q (spl I at_ (le 8 0))) (p := at_) (v := 0) (s := s2) hw2 hoff2
        (poss_cln hw2 hc2 fun q hq => .inl (by rw [hi2])) (fun q ln _ hln => hc2 ln (List.mem_of_getElem? hln)) (by omega) (by rw [hl2]; omega) (by decide) hr2 (.inr (by rw [hi2]))
      rw [hl2] at c2
      rcases c2 with ⟨d1, d2, d3, d4, d5, d6⟩ | ⟨d1, d2, d3, d4, d5, d6⟩
      · subst d1
        exact ⟨_, _, s3, roll_o hrec hne g1 hfe2 c1, d5, .inl ⟨rfl, rfl, d2, d3, d4, by rw [d6, hi2]⟩⟩
      · subst d1
        refine ⟨_, _, s3, roll_p hrec hne g1 hfe2 c1 (by decide), d6, .inr ⟨rfl, d2, ?_⟩⟩
        have hil3 := imgS_len d3
        have hJl : (spl I at_ (le 8 0)).length = s.ls.length * 64 := by rw [spl_length (by rw [le_length]; omega), hIl]
        have hoth : ∀ q, q ≠ at_ / 64 → chunk q (spl I at_ (le 8 0)) = chunk q I := fun q hq => chunk_spl (by rw [le_length]; omega) (by rw [le_length]; omega)
        have hq : ∀ q, q < s.ls.length → chunk q (imgS s3) = chunk q I ∨ chunk q (imgS s3) = chunk q (spl I at_ (le 8 0)) := fun q hq => poss_img d3 d5 (by rw [d6]; exact hq)
        rcases hq (at_ / 64) (by omega) with h1 | h1
        · exact .inl ⟨as_cln d3 d4 (img_ext (n := s.ls.length) (by rw [hil3, d6]) hIl fun q hql => by
            by_cases e : q = at_ / 64
            · rw [e]; exact h1
            · rcases hq q hql with h2 | h2
              · exact h2
              · rw [h2, hoth q e]), d4⟩
        · exact .inr ⟨d3, d4, img_ext (n := s.ls.length) (by rw [hil3, d6]) hJl fun q hql => by
            by_cases e : q = at_ / 64
            · rw [e]; exact h1
            · rcases hq q hql with h2 | h2
              · rw [h2, hoth q e]
              · exact h2⟩
    · rw [hfl] at b2
      refine ⟨_, _, _, roll_f hrec hne g1 (show fe s1 = (5, doneS (fenceS s1)) by rw [hfe, b1]) (by decide), b2.2.2.2.2, .inr ⟨rfl, b2.1, .inl ⟨as_lost b2 hIl, b2.2.2.1⟩⟩⟩
  · subst a1
    exact ⟨_, _, s1, roll_b hrec hne g1 (by decide), a2.2.2.2.2, .inr ⟨rfl, a2.1, .inl ⟨as_lost a2 hIl, a2.2.2.1⟩⟩⟩
end Go.Vl

set_option linter.unusedVariables false
set_option linter.unusedSimpArgs false
namespace Go.Vl
open Go Go.Proofs
/-- A book beside a device on which a loss of power is planned. -/
def armP (after : Int) (keep : List Int) (Q : PlS) : PlS := { Q with s := { Q.s with arms := [(after, keep)], cnt := Q.s.ops } }
/-- What one step does to both. -/
structure ArmStep (after : Int) (keep : List Int) (P' : Bool × PlS) (Q : PlS) (Q' : Bool × PlS) : Prop where
  ok : Q'.1 = true
  ops : P'.2.s.ops = Q'.2.s.ops
  near : Q'.2.s.ops = Q.s.ops ∨ Q'.2.s.ops = Q.s.ops + 1
  on : Q'.2.s.ops ≠ after → P' = (true, armP after keep Q'.2)
  gone : Q'.2.s.ops = after → P'.1 = false ∧ P'.2.s.off = true ∧ P'.2.s.arms = [] ∧ P'.2.s.ls = (goesS keep Q'.2.s).ls
theorem WfP.mono {r r' : Nat} {P : PlS} (h : WfP r P) (hr : r' ≤ r) : WfP r' P := ⟨h.pos, h.top, h.ls, h.seen, h.held, h.last, h.sure, fun l hl => by have := h.room l hl; omega, fun l hl => by have := h.hroom l hl; omega⟩
end Go.Vl

set_option linter.unusedVariables false
set_option linter.unusedSimpArgs false
namespace Go.Vl
open Go Go.Proofs
theorem spl_drop_ge {α : Type} {l b : List α} {p k : Nat} (h : p + b.length ≤ l.length) (hk : p + b.length ≤ k) : (spl l p b).drop k = l.drop k := by
  apply List.ext_getElem?
  intro i
  rw [List.getElem?_drop, List.getElem?_drop, spl_at h, if_neg (by omega)]
end Go.Vl

set_option linter.unusedVariables false
set_option linter.unusedSimpArgs false
namespace Go.Vl
open Go Go.Proofs
def rise (n : Nat) : List Nat := (List.range n).map fun i => i % 256
theorem rise_zero : rise 0 = [] := rfl
theorem rise_len (n : Nat) : (rise n).length = n := by simp [rise]
theorem rise_succ (n : Nat) : rise (n + 1) = rise n ++ [n % 256] := by simp [rise, List.range_succ]
theorem rise_b (n : Nat) : ∀ x ∈ rise n, x < 256 := fun x hx => by
  simp only [rise, List.mem_map] at hx; obtain ⟨i, _, rfl⟩ := hx; omega
theorem rise_at {n i : Nat} (h : i < n) : (rise n)[i]? = some (i % 256) := by simp [rise, h]
/-- The image: bytes that rise, eight zeros at 128; so far k of them. -/
def mdK (k : Nat) : List Nat := spl (rise 1024) 128 (List.replicate k 0)
def mdI : List Nat := mdK 8
theorem mdK_len {k : Nat} (h : k ≤ 8) : (mdK k).length = 1024 := by unfold mdK; rw [spl_length (by rw [List.length_replicate, rise_len]; omega), rise_len]
theorem mdI_len : mdI.length = 1024 := mdK_len (by decide)
theorem mdK_zero : mdK 0 = rise 1024 := by unfold mdK; rw [List.replicate_zero, spl_nil]
theorem mdK_succ {k : Nat} (h : k < 8) : (mdK k).set (128 + k) 0 = mdK (k + 1) := by
  apply List.ext_getElem?
  intro j
  have h1 := mdK_len (show k ≤ 8 by omega)
  unfold mdK at *
  rw [List.getElem?_set, h1, spl_at (by rw [List.length_replicate, rise_len]; omega), spl_at (by rw [List.length_replicate, rise_len]; omega)]
  simp only [List.length_replicate, List.getElem?_replicate]
  by_cases hj : 128 + k = j
  · subst hj
    rw [if_pos rfl, if_pos (by omega), if_pos (by omega), if_pos (by omega)]
  · rw [if_neg hj]
    by_cases h2 : 128 ≤ j ∧ j < 128 + k
    · rw [if_pos h2, if_pos (by omega), if_pos (by omega), if_pos (by omega)]
    · rw [if_neg h2, if_neg (by omega)]
theorem mdI_b : ∀ x ∈ mdI, x < 256 := fun x hx => by
  unfold mdI mdK spl at hx
  simp only [List.mem_append] at hx
  rcases hx with (hx | hx) | hx
  · exact rise_b _ x (List.mem_of_mem_take hx)
  · rw [(List.mem_replicate.1 hx).2]; decide
  · exact rise_b _ x (List.mem_of_mem_drop hx)
theorem mdK8_b : ∀ x ∈ mdK 8, x < 256 := mdI_b
theorem mdI_at {i : Nat} (h : i < 1024) (h2 : i < 128 ∨ 136 ≤ i) : mdI[i]? = some (i % 256) := by
  unfold mdI mdK
  rw [spl_at (by rw [List.length_replicate, rise_len]; decide), List.length_replicate, if_neg (by omega), rise_at h]
theorem mdI_word : (mdI.drop 128).take 8 = List.replicate 8 0 := by
  have := spl_mid (l := rise 1024) (b := List.replicate 8 0) (p := 128) (by rw [List.length_replicate, rise_len]; decide)
  rw [List.length_replicate] at this; exact this
def mds : DevS := fromS 16 mdI
theorem mds_eq : fromS 16 (mdK 8) = mds := rfl
theorem mds_wf : WfD mds := fromS_wf (by decide) (by decide) mdI_b
theorem mds_len : mds.ls.length = 16 := by simp [mds, fromS, newS]
theorem mds_live : Live mds := ⟨rfl, rfl⟩
theorem mds_img : imgS mds = mdI := img_from mdI_b mdI_len
theorem mds_cln : Cln mds := fun l hl => by
  unfold mds fromS at hl
  simp only [List.mem_mapIdx] at hl
  obtain ⟨i, _, rfl⟩ := hl
  rfl
theorem room_cln {s : DevS} (h : Cln s) {k : Nat} (hk : k ≤ 2199023255551) : Room k s := fun l hl => by rw [h l hl]; omega
theorem mdw (sz : Nat) (h1 : 128 ≤ sz) (h2 : sz % 64 = 0) (h3 : sz ≤ 896) : LogW (mds.ls.length * 64) 128 sz := by rw [mds_len]; exact ⟨by decide, by decide, h1, h2, by omega⟩
/-- An image with a log of these records. -/
def LogI (sz : Nat) (l : List (Int × Int)) (I : List Nat) : Prop := nm ((I.drop 128).take 8) = l.length ∧ (I.drop 192).take (needN l) = recsB mdI l ∧ I.length = 1024 ∧ Out 128 (128 + sz) I mdI
theorem wr_log {sz : Nat} {l : List (Int × Int)} (hsz : sz ≤ 896) (h128 : 128 ≤ sz) (hl : l.all (mayX 1024 128 sz) = true) (hN : needN l ≤ sz - 64) : LogI sz l (wrI 128 mdI l) := by
  have hml := mdI_len
  have hrl := recsB_len hml hl
  have h1l : (wrI1 128 mdI l).length = 1024 := by unfold wrI1; rw [spl_length (by omega), hml]
  have h2l : (wrI 128 mdI l).length = 1024 := by unfold wrI; rw [spl_length (by rw [le_length]; omega), h1l]
  have hll : l.length < 18446744073709551616 := Nat.lt_of_le_of_lt (needN_ge l) (by omega)
  refine ⟨?_, ?_, h2l, ?_⟩
  · have := spl_mid (l := wrI1 128 mdI l) (b := le 8 l.length) (p := 128) (by rw [le_length]; omega)
    rw [le_length] at this
    unfold wrI; rw [this, nm_le]
    exact Nat.mod_eq_of_lt (by have : (256 : Nat) ^ 8 = 18446744073709551616 := by decide
                               omega)
  · unfold wrI
    rw [spl_drop_ge (by rw [le_length]; omega) (by rw [le_length]; omega)]
    have := spl_mid (l := mdI) (b := recsB mdI l) (p := 192) (by omega)
    rw [hrl] at this; exact this
  · have h1l2 : (spl mdI (128 + 64) (recsB mdI l)).length = 1024 := h1l
    unfold wrI wrI1
    exact (out_spl (by rw [le_length]; omega) (Nat.le_refl _) (by rw [le_length]; omega)).trans (out_spl (by omega) (by omega) (by omega))
/-- A Write on the device that was made. -/
theorem wrote {sz : Nat} {l : List (Int × Int)} (h1 : 128 ≤ sz) (h2 : sz % 64 = 0) (h3 : sz ≤ 896) (hl : l.all (mayX 1024 128 sz) = true) (hN : needN l ≤ sz - 64) :
    ∃ s1, writeS 128 sz l mds = (0, s1) ∧ Live s1 ∧ WfD s1 ∧ Cln s1 ∧ s1.ls.length = 16 ∧ LogI sz l (imgS s1) ∧ (l = [] → s1 = mds) := by
  have hlw := mdw sz h1 h2 h3
  have h0 : nm (((imgS mds).drop 128).take 8) = 0 := by rw [mds_img, mdI_word]; decide
  by_cases hne : l = []
  · subst hne
    refine ⟨mds, ?_, mds_live, mds_wf, mds_cln, mds_len, ⟨h0, by simp [needN, recsB], by rw [mds_img]; exact mdI_len, by rw [mds_img]; exact Out.refl _ _ _⟩, fun _ => rfl⟩
    unfold writeS
    rw [if_neg (by decide), word_in rfl (by decide) (by rw [mds_len]; decide), h0, if_neg (by simp), if_neg (by simp)]
    rw [if_neg (by show ¬ ((needF [] 0).2 ≠ 0 ∨ _ < (needF [] 0).1); simp [needF]), if_pos rfl]
  · obtain ⟨e, s1, g1, g2, g3, g4, g5⟩ := write_loss (l := l) mds_wf rfl mds_cln hlw (by rw [mds_len]; exact hl) hne hN h0 (room_cln mds_cln (by omega))
    have hphi := writeS_phi 128 sz l mds
    rw [g1, live_phi.1 mds_live] at hphi
    have hL : Live s1 := live_phi.2 (by simp only at hphi; omega)
    rcases g5 with ⟨a1, a2, a3⟩ | ⟨_, a2, _⟩
    · subst a1
      exact ⟨s1, g1, hL, g2, g4, by rw [g3, mds_len], by rw [a3, mds_img]; exact wr_log h3 h1 hl hN, fun h => absurd h hne⟩
    · rw [hL.off] at a2; exact absurd a2 (by decide)
theorem log_records {sz : Nat} {l : List (Int × Int)} {s : DevS} (h1 : 128 ≤ sz) (h2 : sz % 64 = 0) (h3 : sz ≤ 896) (hl : l.all (mayX 1024 128 sz) = true) (hN : needN l ≤ sz - 64) (hw : WfD s) (hO : s.off = false) (hlen : s.ls.length = 16)
    (hi : ((imgS s).drop 128).take 8 = ((imgS s).drop 128).take 8) (hh : nm (((imgS s).drop 128).take 8) = l.length) (hr : ((imgS s).drop 192).take (needN l) = recsB mdI l) : recordsS 128 sz s = (oldsL mdI l, 0) :=
  records_of hw hO (by rw [hlen]; exact ⟨by decide, by decide, h1, h2, by omega⟩) (by rw [hlen]; exact mdI_len) (by rw [hlen]; exact hl) hN hh hr
end Go.Vl

set_option linter.unusedVariables false
set_option linter.unusedSimpArgs false
namespace Go.Vl
open Go Go.Proofs
attribute [local irreducible] crk crL crc Sl pt ro Dev imgS recS readS recsF rdW rdO rkT Parts rvl recordsS mdI mdK rise
theorem within11_c {A : SP} {i n : Int} (hn : 0 < n ∧ n ≤ 9223372036854775807 := by omega) :
    Fn Try.prog 13 #[.int .i64 i, .int .i64 n] (A) (fun r B => r = .int .i64 (i % n) ∧ A = B) := by
  refine fn_enterW (args := [.int .i64 i, .int .i64 n]) Try.func13 rfl Try.ntmps13 (by simp) ?_
  have hb := tmod_lt' (a := i) hn.1
  refine sr ?_; refine tla ?_; refine nq ?_; refine sr ?_; refine tlm ?_; refine tlm ?_; refine tv (o_rem (a := i) (b := n) rfl rfl (by omega)) ?_; refine tla ?_; refine nq ?_; refine tc_seq ?_; refine sr ?_; refine tlm ?_; refine tv (o_lss rfl rfl) ?_; refine nq ?_; refine tc_cond rfl (fun h => ?_) (fun h => ?_)
  · try simp only [lv1, lv2, lv3, lv4, lv5, lv6, Bool.not_true, Bool.not_false] at h
    refine tc_reg ?_; refine tlm ?_; refine tlm ?_; refine tv (o_addI (a := i.tmod n) (b := n) rfl rfl (by omega)) ?_; refine tla ?_; refine nq ?_; refine sr ?_; refine tlm ?_; refine tla ?_; refine nq ?_; refine tc_ret ?_; exact ⟨.int .i64 (i.tmod n + n), A, res1 rfl rfl, fun _ _ h => h, by rw [within_neg hn.1 h], rfl⟩
  · try simp only [lv1, lv2, lv3, lv4, lv5, lv6, Bool.not_true, Bool.not_false] at h
    refine tc_skip ?_; refine q_then_n ?_; refine sr ?_; refine tlm ?_; refine tla ?_; refine nq ?_; refine tc_ret ?_; exact ⟨.int .i64 (i.tmod n), A, res1 rfl rfl, fun _ _ h => h, by rw [within_pos hn.1 h], rfl⟩
set_option maxRecDepth 20000 in
set_option maxHeartbeats 2000000 in
theorem made_c {A : SP} {sz : Nat} (h1 : 128 ≤ sz := by omega) (h2 : sz % 64 = 0 := by omega) (h3 : sz ≤ 896 := by omega) :
    Fn Try.prog 21 #[.int .i64 (sz : Nat)] (A) (fun r B => ∃ d bl, r = .tuple #[.pointer (some ⟨d, 0, none⟩), .pointer (some ⟨bl, 0, none⟩), .bool true] ∧ B = A * Dev d mds * pt bl (cl (lcs11 d 128 sz) 52)) := by
  refine fn_enterW (args := [.int .i64 (sz : Nat)]) Try.func21 rfl Try.ntmps21 (by simp) ?_; refine sr ?_; refine tla ?_; refine tla ?_; refine tla ?_; refine nq ?_; refine sr ?_; refine tla ?_; refine nq ?_; refine tc_seq ?_; refine sr ?_; refine tla ?_; refine nq ?_; refine tc_block ?_; refine tc_pre (A' := A * Sl 1 (.slice none 0 0) 0 (bys (rise 0))) (fun _ _ h => by rw [rise_zero]; exact sl_nil h) ?_; refine tc_loop (fun kk ρ BB => ∃ (i : Nat) (a5 : Option Addr) (c5 : Nat), (i ≤ 1024) ∧ (i ≤ c5) ∧ kk = 1024 - i ∧ ρ 5 = .slice a5 i c5 ∧ ρ 6 = .int .i64 (i : Nat) ∧ ρ 0 = .int .i64 (sz : Nat) ∧ Dr BB (A * Sl 1 (.slice a5 i c5) i (bys (rise i)))) (m := 1024 - (0)) ?_ ?_
  · exact ⟨0, none, 0, by omega, by omega, rfl, rfl, rfl, rfl, (by repeat (first | with_reducible exact dr_refl | apply dr_keep | apply dr_drop))⟩
  · intro k ρ B hI
    obtain ⟨i, a5, c5, hp0, hp1, hkk1, hE5, hE6, hE0, hBA⟩ := hI
    refine tc_pre hBA.sat ?_
    clear hBA
    refine tc_env (d := 5) hE5 ?_; refine tc_env (d := 6) hE6 ?_; refine tc_env (d := 0) hE0 ?_
    clear hE5 hE6 hE0
    refine tc_seq ?_; refine sr ?_; refine tlm ?_; refine tv (o_lss rfl rfl) ?_; refine nq ?_; refine tc_cond rfl (fun h => ?_) (fun h => ?_)
    · have hi : i < 1024 := by first | omega | (simp at h; omega)
      refine tc_skip ?_; refine q_then_n ?_; refine tc_seq ?_; refine tc_block ?_; refine tc_reg ?_; refine tlm ?_; refine tlm ?_; refine tv (by first | exact o_conv8 Try.underlying3 Try.underlying5 rfl | exact o_conv Try.underlying3 Try.underlying5 rfl) ?_; refine tl_env (d := 18) (v := .int .u8 ((i % 256 : Nat) : Int)) (by first | rfl | (show Value.int .u8 _ = _; congr 1; first | omega | (simp [IntKind.wrap, IntKind.bits, IntKind.signed]; omega))) ?_; refine tl_x rfl (o_buildSliceL (k := 1) (vs := bys [i % 256]) (l := bys [i % 256]) Try.underlying60 sz5 z5 rfl rfl (by decide) (by decide) (by intro v hv; simp only [bys, b8, List.map_cons, List.map_nil, List.mem_cons, List.not_mem_nil, or_false] at hv; rcases hv with rfl; rfl) rfl) ?_; rintro _ _ ⟨b19, rfl, rfl⟩; refine tl_x rfl (o_apB Try.underlying60 Try.underlying60 sz5 by5 z5 rfl (by decide) (by decide) rfl rfl rfl (by repeat (first | with_reducible exact ct_here | apply ct_left)) rfl rfl (by omega) (show _ = bys (rise i ++ [i % 256]) by rw [← bys_append])) ?_; rintro _ _ ⟨a20, c20, rfl, hc20, rfl⟩; refine tla ?_; refine tl_nil ?_; refine q_block_n (q_then_n ?_); refine tc_reg ?_; refine tlm ?_; refine tv (by first | exact o_addI rfl rfl (by omega) | exact o_add rfl rfl) ?_; refine tla ?_; refine nq ?_; exact ⟨_, by omega, i + 1, _, _, by omega, hc20, rfl, rfl, rfl, rfl, by rw [rise_succ]; repeat (first | with_reducible exact dr_refl | apply dr_keep | apply dr_drop)⟩
    · obtain rfl : i = 1024 := by first | omega | (simp at h; omega)
      refine tc_exit ?_; refine q_then_e (q_then_e (q_block_x (q_then_n ?_))); refine tc_seq ?_; refine sr ?_; refine tla ?_; refine nq ?_; refine tc_block ?_; refine tc_loop (fun kk ρ BB => ∃ (k : Nat), (k ≤ 8) ∧ kk = 8 - k ∧ ρ 7 = .int .i64 ((128 + k : Nat) : Int) ∧ ρ 0 = .int .i64 (sz : Nat) ∧ ρ 5 = .slice a5 1024 c5 ∧ Dr BB (A * Sl 1 (.slice a5 1024 c5) 1024 (bys (mdK k)))) (m := 8 - (0)) ?_ ?_
      · exact ⟨0, by omega, rfl, rfl, rfl, rfl, by rw [mdK_zero]; repeat (first | with_reducible exact dr_refl | apply dr_keep | apply dr_drop)⟩
      · intro k ρ B hI
        obtain ⟨k, hq0, hkk2, hE7, hE0, hE5, hBA⟩ := hI
        refine tc_pre hBA.sat ?_
        clear hBA
        refine tc_env (d := 7) hE7 ?_; refine tc_env (d := 0) hE0 ?_; refine tc_env (d := 5) hE5 ?_
        clear hE7 hE0 hE5
        refine tc_seq ?_; refine sr ?_; refine tlm ?_; refine tv (o_lss rfl rfl) ?_; refine nq ?_; refine tc_cond rfl (fun h => ?_) (fun h => ?_)
        · have hk : k < 8 := by first | omega | (simp at h; omega)
          have hkl := mdK_len (show k ≤ 8 by omega)
          refine tc_skip ?_; refine q_then_n ?_; refine tc_seq ?_; refine tc_block ?_; refine tc_reg ?_; refine tlm ?_; refine tlm ?_; refine tv (o_ixP1 Try.underlying60 sz5 rfl rfl (by omega) (nn_rs rs_sl (by rw [bys_length]; omega))) ?_; refine tl_u rfl (o_stP (ys := bys (mdK (k + 1))) sz5 rfl rfl rfl (by repeat (first | with_reducible exact ct_here | apply ct_left)) (by omega) (by rw [← mdK_succ hk]; exact bys_set _ _ 0)) ?_; refine tl_nil ?_; refine q_block_n (q_then_n ?_); refine tc_reg ?_; refine tlm ?_; refine tv (by first | exact o_addI rfl rfl (by omega) | exact o_add rfl rfl) ?_; refine tla ?_; refine nq ?_; exact ⟨_, by omega, k + 1, by omega, rfl, rfl, rfl, rfl, (by repeat (first | with_reducible exact dr_refl | apply dr_keep | apply dr_drop))⟩
        · obtain rfl : k = 8 := by first | omega | (simp at h; omega)
          refine tc_exit ?_; refine q_then_e (q_then_e (q_block_x (q_then_n ?_))); refine sr ?_; refine tlm ?_; refine tl_c rfl (o_call bd49 rfl (From_c (n := 16) (xs := mdK 8) (hr := rs_sl) (hx := mdK_len (by decide)) (hb := mdK8_b))) ?_; rintro _ _ ⟨d30, rfl, rfl⟩; refine tlm ?_; refine tv (o_extract rfl rfl) ?_; refine tv (o_extract rfl rfl) ?_; refine tla ?_; refine tla ?_; refine nq ?_; refine tc_seq ?_; refine sr ?_; refine tlm ?_; refine tv (o_nei rfl rfl) ?_; refine tlm ?_; refine tl_bool (d := 35) rfl (fun h => ?_) (fun h => ?_)
          · exfalso; simp at h
          · try simp only [lv1, lv2, lv3, lv4, lv5, lv6, Bool.not_true, Bool.not_false] at h
            refine tlm ?_; refine tv (o_eqp Try.underlying31 rfl rfl) ?_; refine tv (o_pick_f rfl (by conv => lhs; whnf)) ?_; refine nq ?_; refine tc_cond rfl (fun h => ?_) (fun h => ?_)
            · exfalso; simp at h
            · try simp only [lv1, lv2, lv3, lv4, lv5, lv6, Bool.not_true, Bool.not_false] at h
              refine tc_skip ?_; refine q_then_n ?_; refine sr ?_; refine tlm ?_; refine tlm ?_; refine tl_c rfl (o_call bd16 rfl (Open_ok (s := fromS 16 (mdK 8)) (p := 128) (q := (sz : Nat)) (hok := by have hl9 : (fromS 16 (mdK 8)).ls.length = 16 := (by simp [fromS, newS]); rw [hl9]; omega))) ?_; rintro _ _ ⟨b42, rfl, rfl⟩; refine tlm ?_; refine tv (o_extract rfl rfl) ?_; refine tv (o_extract rfl rfl) ?_; refine tla ?_; refine tla ?_; refine nq ?_; refine sr ?_; refine tlm ?_; refine tlm ?_; refine tlm ?_; refine tv (o_eqi rfl rfl) ?_; refine tlm ?_; refine tl_bool (d := 49) rfl (fun h => ?_) (fun h => ?_)
              · try simp only [lv1, lv2, lv3, lv4, lv5, lv6, Bool.not_true, Bool.not_false] at h
                refine tlm ?_; refine tv (o_nep Try.underlying37 rfl rfl) ?_; refine tv (o_pick_t rfl (by conv => lhs; whnf)) ?_; refine tla ?_; refine tla ?_; refine tla ?_; refine nq ?_; refine tc_ret ?_; exact ⟨.tuple #[.pointer (some ⟨d30, 0, none⟩), .pointer (some ⟨b42, 0, none⟩), .bool true], A * Dev d30 (fromS 16 (mdK 8)) * pt b42 (cl [.pointer (some ⟨d30, 0, none⟩), .int .i64 128, .int .i64 (sz : Nat)] 52), res3 rfl rfl rfl rfl, Dr.sat (by repeat (first | with_reducible exact dr_refl | apply dr_keep | apply dr_drop)), d30, b42, rfl, by rw [mds_eq]; rfl⟩
              · exfalso; simp at h
end Go.Vl

set_option linter.unusedVariables false
set_option linter.unusedSimpArgs false
namespace Go.Vl
open Go Go.Proofs
theorem as_sto {L : List (Nat × List Nat)} {I : List Nat} {p r : Nat} {b : List Nat} {s : DevS} (hA : AS L I s) (hO : s.off = false) (hp : p + b.length ≤ s.ls.length * 64) (hin : ∀ i, p ≤ i → i < p + b.length → InX L i) (hb : ∀ x ∈ b, x < 256) (hr : Room (r + b.length) s) :
    ∃ e s2, sto (p : Nat) b s = (e, s2) ∧ ((e = 0 ∧ s2.off = false ∧ AS L I s2 ∧ s2.ls.length = s.ls.length ∧ Room r s2 ∧ imgS s2 = spl (imgS s) p b) ∨ (e = 5 ∧ s2.off = true ∧ AS L I s2 ∧ s2.ls.length = s.ls.length)) := by
  by_cases hb0 : b = []
  · subst hb0
    refine ⟨0, s, ?_, .inl ⟨rfl, hO, hA, rfl, fun l hl => by have := hr l hl; omega, (spl_nil _ _).symm⟩⟩
    simp only [List.length_nil] at hp
    unfold sto; rw [hO, rdy_ok (by omega) (by simp) (by simp only [List.length_nil]; omega), if_neg (by decide)]; exact storeF_nil _ _ _
  have hbl : 0 < b.length := List.length_pos_iff.2 hb0
  obtain ⟨e, s1, g1, g2⟩ := storeF_loss (X := XU L I) b.length (p := p) (r := r) rfl hA.wf hO hb hr hp hA.poss (fun k j k0 k1 _ hj => xu_spl hA hp hin k j k0 k1 hj)
  have hst : sto (p : Nat) b s = (e, s1) := by
    unfold sto; rw [hO, rdy_ok (by omega) (by omega) (by omega), if_neg (by decide), Int.toNat_natCast]; exact g1
  refine ⟨e, s1, hst, ?_⟩
  rcases g2 with ⟨a1, ⟨a2, a3, a4, a5, a6⟩, a7, a8⟩ | ⟨a1, a2⟩
  · refine .inl ⟨a1, a2, ⟨a3, by rw [a5]; exact hA.len, a4, fun q ln hq hln => ?_⟩, a5, a7, a8⟩
    by_cases hj : (q + 1) * 64 ≤ p ∨ p + b.length ≤ q * 64
    · rw [a6 q hj] at hln; exact hA.one q ln hq hln
    · exact absurd (show max p (q * 64) / 64 = q by omega) (hq (max p (q * 64)) (hin _ (by omega) (by omega)))
  · exact .inr ⟨a1, a2.1, as_lost a2 hA.len, a2.2.2.2.2⟩
theorem olds_mem {I : List Nat} {l : List (Int × Int)} {x : Nat × List Nat} (h : x ∈ oldsL I l) : ∃ y ∈ l, x = (y.1.toNat, (I.drop y.1.toNat).take y.2.toNat) := by
  obtain ⟨y, hy, rfl⟩ := List.mem_map.1 h; exact ⟨y, hy, rfl⟩
theorem olds_ok {sz : Nat} {l : List (Int × Int)} {I : List Nat} (hl : l.all (mayX 1024 128 sz) = true) (hI : LogI sz l I) : ∀ x ∈ oldsL mdI l, mayX 1024 128 sz ((x.1 : Int), ((x.2.length : Nat) : Int)) = true ∧ (∀ b ∈ x.2, b < 256) ∧ x.2 = (I.drop x.1).take x.2.length := fun x hx => by
  obtain ⟨y, hy, rfl⟩ := olds_mem hx
  have hm := List.all_eq_true.1 hl y hy
  obtain ⟨p, m, rfl, y1, y2, y3, y4⟩ := may_nat hm
  have hml := mdI_len
  have hol : ((mdI.drop p).take m).length = m := by rw [List.length_take, List.length_drop]; omega
  simp only [Int.toNat_natCast]
  refine ⟨by rw [hol]; exact hm, fun b hb => mdI_b b (List.mem_of_mem_drop (List.mem_of_mem_take hb)), ?_⟩
  rw [hol]
  exact (out_sub hI.2.2.2 (by omega)).symm
theorem olds_in {sz i : Nat} {l : List (Int × Int)} (hl : l.all (mayX 1024 128 sz) = true) (h : InX (oldsL mdI l) i) : i < 128 ∨ 128 + sz ≤ i := by
  obtain ⟨x, hx, h1, h2⟩ := h
  obtain ⟨y, hy, rfl⟩ := olds_mem hx
  obtain ⟨p, m, rfl, y1, y2, y3, y4⟩ := may_nat (List.all_eq_true.1 hl y hy)
  have hml := mdI_len
  simp only [Int.toNat_natCast, List.length_take, List.length_drop] at h1 h2
  omega
theorem sum_olds {sz : Nat} : ∀ {l : List (Int × Int)}, l.all (mayX 1024 128 sz) = true → sumL (oldsL mdI l) ≤ needN l
  | [], _ => Nat.zero_le _
  | x :: l, hl => by
    rw [List.all_cons, Bool.and_eq_true] at hl
    obtain ⟨p, m, rfl, y1, y2, y3, y4⟩ := may_nat hl.1
    have ih := sum_olds hl.2
    have e : oldsL mdI (((p : Int), (m : Int)) :: l) = (p, (mdI.drop p).take m) :: oldsL mdI l := rfl
    rw [e, sumL_cons, needN_cons]
    simp only [Int.toNat_natCast, List.length_take]
    have := up8_le m
    omega
/-- A state of the story: outside the extents the log's image; or the log is empty, all is as it was. -/
theorem as_records {sz : Nat} {l : List (Int × Int)} {I : List Nat} {s : DevS} (h1 : 128 ≤ sz) (h2 : sz % 64 = 0) (h3 : sz ≤ 896) (hl : l.all (mayX 1024 128 sz) = true) (hN : needN l ≤ sz - 64) (hI : LogI sz l I) (hA : AS (oldsL mdI l) I s) (hO : s.off = false) (hlen : s.ls.length = 16) : recordsS 128 sz s = (oldsL mdI l, 0) := by
  have hno : ∀ i, 128 ≤ i → i < 128 + sz → ¬ InX (oldsL mdI l) i := fun i a b hin => by rcases olds_in hl hin with h | h <;> omega
  refine log_records h1 h2 h3 hl hN hA.wf hO hlen rfl ?_ ?_
  · rw [hA.sub (fun i a b => hno i a (by omega))]; exact hI.1
  · rw [hA.sub (fun i a b => hno i (by omega) (by omega))]; exact hI.2.1
theorem as_roll {sz : Nat} {l : List (Int × Int)} {I : List Nat} {s : DevS} (h1 : 128 ≤ sz) (h2 : sz % 64 = 0) (h3 : sz ≤ 896) (hl : l.all (mayX 1024 128 sz) = true) (hN : needN l ≤ sz - 64) (hne : l ≠ []) (hI : LogI sz l I) (hA : AS (oldsL mdI l) I s) (hO : s.off = false) (hlen : s.ls.length = 16) (hr : Room (needN l + 1) s) :
    ∃ k e s2, rollS 128 sz s = ((k, e), s2) ∧ s2.ls.length = 16 ∧ ((e = 0 ∧ k = l.length ∧ s2.off = false ∧ WfD s2 ∧ Cln s2 ∧ imgS s2 = spl I 128 (le 8 0)) ∨ (e = 5 ∧ s2.off = true ∧ ((AS (oldsL mdI l) I s2 ∧ Cln s2) ∨ (WfD s2 ∧ Cln s2 ∧ imgS s2 = spl I 128 (le 8 0))))) := by
  have hs := sum_olds hl
  have := roll_loss (at_ := 128) (sz := sz) hA hO (by rw [hlen]; exact ⟨by decide, by decide, h1, h2, by omega⟩) (fun l hl => by have := hr l hl; omega) (by
    intro e; apply hne
    have := congrArg List.length e
    unfold oldsL at this; rw [List.length_map] at this; exact List.eq_nil_of_length_eq_zero this) (as_records h1 h2 h3 hl hN hI hA hO hlen) (by rw [hlen]; exact olds_ok hl hI)
  rw [hlen] at this
  have hll : (oldsL mdI l).length = l.length := by unfold oldsL; rw [List.length_map]
  rw [hll] at this
  exact this
/-- Behind it: no record, all bytes outside the log as they were. -/
theorem empty_log {sz : Nat} {l : List (Int × Int)} {I : List Nat} {s : DevS} (h1 : 128 ≤ sz) (h2 : sz % 64 = 0) (h3 : sz ≤ 896) (hI : LogI sz l I) (hw : WfD s) (hO : s.off = false) (hlen : s.ls.length = 16) (hi : imgS s = spl I 128 (le 8 0)) : recordsS 128 sz s = ([], 0) ∧ rollS 128 sz s = ((0, 0), s) ∧ Out 128 (128 + sz) (imgS s) mdI := by
  have hIl := hI.2.2.1
  have hr : recordsS 128 sz s = ([], 0) := by
    refine records_none hO (by rw [hlen]; exact ⟨by decide, by decide, h1, h2, by omega⟩) ?_
    have := spl_mid (l := I) (b := le 8 0) (p := 128) (by rw [le_length]; omega)
    rw [le_length] at this
    rw [hi, this]; decide
  refine ⟨hr, roll_no hr (.inr rfl), ?_⟩
  rw [hi]
  exact (out_spl (by rw [le_length]; omega) (Nat.le_refl _) (by rw [le_length]; omega)).trans hI.2.2.2
theorem md64 : (mdI.drop 64).take 4 = [64, 65, 66, 67] := by
  apply List.ext_getElem?
  intro i
  rw [List.getElem?_take]
  by_cases hi : i < 4
  · rw [if_pos hi, List.getElem?_drop, mdI_at (by omega) (by omega)]
    rcases Nat.lt_or_ge i 1 with h | h
    · obtain rfl : i = 0 := by omega
      rfl
    · rcases Nat.lt_or_ge i 2 with h | h
      · obtain rfl : i = 1 := by omega
        rfl
      · rcases Nat.lt_or_ge i 3 with h | h
        · obtain rfl : i = 2 := by omega
          rfl
        · obtain rfl : i = 3 := by omega
          rfl
  · rw [if_neg hi, List.getElem?_eq_none (by simp; omega)]
theorem aw_facts : ∃ s1 s2 s3, writeS 128 192 [(64, 4)] mds = (0, s1) ∧ writeS 128 192 [] s1 = (3, s1) ∧ sto 64 [9, 9, 9, 9] s1 = (0, s2) ∧ recordsS 128 192 s2 = ([(64, [64, 65, 66, 67])], 0) ∧ rollS 128 192 s2 = ((1, 0), s3) ∧ rollS 128 192 s3 = ((0, 0), s3) ∧ s3.off = false ∧ ((imgS s3).drop 64).take 4 = [64, 65, 66, 67] ∧
    s1.ls.length = 16 ∧ s2.ls.length = 16 ∧ s3.ls.length = 16 ∧ Room 1000 s1 ∧ Room 1000 s2 ∧ Room 1000 s3 := by
  have hl : ([((64 : Int), (4 : Int))]).all (mayX 1024 128 192) = true := by decide
  have hN : needN [((64 : Int), (4 : Int))] ≤ 192 - 64 := by decide
  obtain ⟨s1, a1, a2, a3, a4, a5, a6, _⟩ := wrote (sz := 192) (by decide) (by decide) (by decide) hl hN
  have hO1 := a2.off
  have hw1 : (wordP (128 : Nat) s1).1 = 1 := by rw [word_in hO1 (by decide) (by rw [a5]; decide)]; exact a6.1
  have hA1 : AS (oldsL mdI [(64, 4)]) (imgS s1) s1 := as_cln a3 a4 rfl
  have hold : oldsL mdI [((64 : Int), (4 : Int))] = [(64, [64, 65, 66, 67])] := by
    unfold oldsL
    rw [List.map_cons, List.map_nil]
    simp only [show (64 : Int).toNat = 64 from rfl, show (4 : Int).toNat = 4 from rfl, md64]
  have hin : ∀ i, 64 ≤ i → i < 64 + 4 → InX (oldsL mdI [(64, 4)]) i := fun i h1 h2 => by rw [hold]; exact ⟨_, List.mem_singleton.2 rfl, h1, h2⟩
  have hr1 : Room 5000 s1 := room_cln a4 (by decide)
  obtain ⟨e, s2, b1, b2⟩ := as_sto (r := 4000) (b := [9, 9, 9, 9]) hA1 hO1 (by rw [a5]; decide) hin (by decide) (fun l hl => by have := hr1 l hl; simp only [List.length_cons, List.length_nil]; omega)
  have hph2 := sto_phi (64 : Nat) [9, 9, 9, 9] s1
  rw [b1, live_phi.1 a2] at hph2
  have hL2 : Live s2 := live_phi.2 (by simp only at hph2; omega)
  rcases b2 with ⟨c1, c2, c3, c4, c5, c6⟩ | ⟨_, c2, _⟩
  · subst c1
    rw [a5] at c4
    obtain ⟨k, e, s3, d1, d2, d3⟩ := as_roll (by decide) (by decide) (by decide) hl hN (by decide) a6 c3 c2 c4 (fun l hl => by have := c5 l hl; omega)
    have hph3 : phi s3 ≤ phi s2 := by
      have : ∀ s : DevS, phi (rollS 128 192 s).2 ≤ phi s := fun s => by
        unfold rollS
        have hb : ∀ (l : List (Nat × List Nat)) (s : DevS), phi (backF l s).2 ≤ phi s := fun l => by
          induction l with
          | nil => intro s; exact Nat.le_refl _
          | cons x l ih =>
            intro s
            have hx : phi (backS x s).2 ≤ phi s := by
              unfold backS; split
              · exact sto_phi _ _ _
              · exact Nat.le_trans (flL_phi _ _ _) (sto_phi _ _ _)
            show phi (if (backS x s).1 ≠ 0 then backS x s else backF l (backS x s).2).2 ≤ _
            split
            · exact hx
            · exact Nat.le_trans (ih _) hx
        have h1 := hb (recordsS 128 192 s).1.reverse s
        have h2 := Nat.le_trans (fe_phi (backF (recordsS 128 192 s).1.reverse s).2) h1
        have h3 := Nat.le_trans (pubP_phi ((128 : Nat) : Int) 0 (fe (backF (recordsS 128 192 s).1.reverse s).2).2) h2
        repeat' (split; · first | exact Nat.le_refl _ | exact h1 | exact h2 | exact h3)
        exact h3
      have := this s2; rw [d1] at this; exact this
    have hL3 : Live s3 := live_phi.2 (by have := live_phi.1 hL2; omega)
    rcases d3 with ⟨f1, f2, f3, f4, f5, f6⟩ | ⟨_, f2, _⟩
    · subst f1
      obtain ⟨g1, g2, g3⟩ := empty_log (sz := 192) (by decide) (by decide) (by decide) a6 f4 f3 d2 f6
      refine ⟨s1, s2, s3, a1, ?_, b1, by rw [as_records (by decide) (by decide) (by decide) hl hN a6 c3 c2 c4, hold], by rw [d1, f2]; rfl, g2, f3, ?_, a5, c4, d2, room_cln a4 (by decide), fun l hl => by have := c5 l hl; omega, room_cln f5 (by decide)⟩
      · unfold writeS
        rw [if_neg (by rw [hO1]; decide), hw1, if_pos (by decide)]
      · rw [out_sub g3 (by omega)]
        exact md64
    · rw [hL3.off] at f2; exact absurd f2 (by decide)
  · rw [hL2.off] at c2; exact absurd c2 (by decide)
end Go.Vl

set_option linter.unusedVariables false
set_option linter.unusedSimpArgs false
namespace Go.Vl
open Go Go.Proofs
theorem pair_eq {α β : Type} {x : α × β} {a c : α} {b d : β} (h1 : x = (a, b)) (h2 : x = (c, d)) : a = c ∧ b = d := by
  rw [h1] at h2; simpa using h2
theorem len_one {α : Type} : ∀ {l : List α}, l.length = 1 → ∃ x, l = [x]
  | [x], _ => ⟨x, rfl⟩
attribute [local irreducible] crk crL crc Sl pt ro Dev imgS recS readS recsF rdW rdO rkT Parts rvl recordsS mdI mdK rise mds writeS rollS
set_option maxRecDepth 20000 in
set_option maxHeartbeats 2000000 in
theorem awake11_c {A : SP} :
    Fn Try.prog 19 #[] (A) (fun r B => r = .bool true ∧ A = B) := by
  refine fn_enterW (args := []) Try.func19 rfl Try.ntmps19 (by simp) ?_
  obtain ⟨s1, s2, s3, k1, k2, k3, k4, k5, k6, k7, k8, k9, k10, k11, k12, k13, k14⟩ := aw_facts
  refine sr ?_; refine tla ?_; refine nq ?_; refine sr ?_; refine tl_c rfl (o_call bd21 rfl (made_c (sz := 192))) ?_; rintro _ _ ⟨d, bl, rfl, rfl⟩; refine tlm ?_; refine tv (o_extract rfl rfl) ?_; refine tv (o_extract rfl rfl) ?_; refine tv (o_extract rfl rfl) ?_; refine tla ?_; refine tla ?_; refine tla ?_; refine nq ?_; refine tc_seq ?_; refine sr ?_; refine tlm ?_; refine tv (o_not rfl) ?_; refine tlm ?_; refine tl_bool (d := 19) rfl (fun h => ?_) (fun h => ?_)
  · exfalso; simp at h
  · try simp only [lv1, lv2, lv3, lv4, lv5, lv6, Bool.not_true, Bool.not_false] at h
    refine tlm ?_; refine tv (o_bS (l := [_, _]) (pv_cons (by conv => lhs; whnf) (pv_cons (by conv => lhs; whnf) pv_nil)) Try.underlying74 z74 (pl74 Try.underlying74) rfl) ?_; refine tl_x rfl (o_buildSliceK (k := 2) (l := xcs ((64 : Int), (4 : Int))) Try.underlying53 sz74 z74 rfl rfl (by decide)) ?_; rintro _ _ ⟨b22, rfl, rfl⟩; refine tl_c rfl (o_call bd24 rfl (Write_c (s := mds) (xs := [((64 : Int), (4 : Int))]) (hlw := mdw 192 (by decide) (by decide) (by decide)) (hr := show Rs _ _ (xcs ((64 : Int), (4 : Int))) from by repeat (first | exact rs_pt rfl | apply Rs.left)) (hX := by intro x hx; rw [List.mem_singleton] at hx; subst hx; exact ⟨by decide, by decide⟩) (hroom := room_cln mds_cln (by decide)))) ?_; rintro _ _ ⟨e23, s23, hs23, rfl, rfl⟩
    obtain ⟨rfl, rfl⟩ := pair_eq k1 hs23
    refine tv (o_nei rfl rfl) ?_; refine tv (o_pick_f rfl (by conv => lhs; whnf)) ?_; refine tlm ?_; refine tl_bool (d := 26) rfl (fun h => ?_) (fun h => ?_)
    · exfalso; simp at h
    · try simp only [lv1, lv2, lv3, lv4, lv5, lv6, Bool.not_true, Bool.not_false] at h
      refine tlm ?_; refine tl_c rfl (o_call bd24 rfl (Write_c (s := s1) (xs := []) (hlw := by rw [k9]; exact ⟨by decide, by decide, by decide, by decide, by decide⟩) (hr := rs_none) (hX := by intro x hx; cases hx) (hroom := room_le k12 (by decide)))) ?_; rintro _ _ ⟨e28, s28, hs28, rfl, rfl⟩
      obtain ⟨rfl, rfl⟩ := pair_eq k2 hs28
      refine tv (o_nei rfl rfl) ?_; refine tv (o_pick_f rfl (by conv => lhs; whnf)) ?_; refine tlm ?_; refine tl_bool (d := 31) rfl (fun h => ?_) (fun h => ?_)
      · exfalso; simp at h
      · try simp only [lv1, lv2, lv3, lv4, lv5, lv6, Bool.not_true, Bool.not_false] at h
        refine tlm ?_; refine tl_x rfl (o_buildSliceL (k := 1) (vs := bys [9, 9, 9, 9]) (l := bys [9, 9, 9, 9]) Try.underlying60 sz5 z5 rfl rfl (by decide) (by decide) (by intro v hv; simp only [bys, b8, List.map_cons, List.map_nil, List.mem_cons, List.not_mem_nil, or_false] at hv; rcases hv with rfl | rfl | rfl | rfl <;> rfl) rfl) ?_; rintro _ _ ⟨b33, rfl, rfl⟩; refine tl_c rfl (o_call bd47 rfl (Store_c (s := s1) (p := 64) (xs := [9, 9, 9, 9]) (hr := show Rs _ _ (bys [9, 9, 9, 9]) from by repeat (first | exact rs_pt rfl | apply Rs.left)) (hm := rfl) (hb := by decide) (hroom := fun _ => room_le k12 (by decide)))) ?_; rintro _ _ ⟨e34, s34, hs34, rfl, rfl⟩
        obtain ⟨rfl, rfl⟩ := pair_eq k3 hs34
        refine tv (o_nei rfl rfl) ?_; refine tv (o_pick_f rfl (by conv => lhs; whnf)) ?_; refine nq ?_; refine tc_cond rfl (fun h => ?_) (fun h => ?_)
        · exfalso; simp at h
        · try simp only [lv1, lv2, lv3, lv4, lv5, lv6, Bool.not_true, Bool.not_false] at h
          refine tc_skip ?_; refine q_then_n ?_; refine sr ?_; refine tlm ?_; refine tl_c rfl (o_call bd25 rfl (Records_w (s := s2) (hX := k4) (hlw := by rw [k10]; exact ⟨by decide, by decide, by decide, by decide, by decide⟩))) ?_; rintro _ _ ⟨a39, c39, vs, rfl, hc39, hvs, rfl⟩
          obtain ⟨v, rfl⟩ := len_one hvs
          refine tlm ?_; refine tv (o_extract rfl rfl) ?_; refine tv (o_extract rfl rfl) ?_; refine tla ?_; refine tla ?_; refine nq ?_; refine sr ?_; refine tlm ?_; refine tl_c rfl (o_call bd37 rfl (Rg.Rollback_c (s := s2) (hroom := room_le k13 (by decide)) (hlw := by rw [k10]; exact ⟨by decide, by decide, by decide, by decide, by decide⟩))) ?_; rintro _ _ ⟨e44, n44, s44, hs44, rfl, rfl⟩
          obtain ⟨hq9, rfl⟩ := pair_eq k5 hs44
          simp only [Prod.mk.injEq] at hq9
          obtain ⟨rfl, rfl⟩ := hq9
          refine tlm ?_; refine tv (o_extract rfl rfl) ?_; refine tv (o_extract rfl rfl) ?_; refine tla ?_; refine tla ?_; refine nq ?_; refine sr ?_; refine tlm ?_; refine tl_c rfl (o_call bd48 rfl (Load_c (s := s3) (p := 64) (m := 4) (hpm := by rw [k11]; decide))) ?_; rintro _ _ ⟨a49, c49, rfl, hc49, rfl⟩; refine tlm ?_; refine tv (o_extract rfl rfl) ?_; refine tv (o_extract rfl rfl) ?_; refine tla ?_; refine tla ?_; refine nq ?_; refine sr ?_; refine tlm ?_; refine tl_c rfl (o_call bd37 rfl (Rg.Rollback_c (s := s3) (hroom := room_le k14 (by decide)) (hlw := by rw [k11]; exact ⟨by decide, by decide, by decide, by decide, by decide⟩))) ?_; rintro _ _ ⟨e54, n54, s54, hs54, rfl, rfl⟩
          obtain ⟨hq9, hs9⟩ := pair_eq k6 hs54
          simp only [Prod.mk.injEq] at hq9
          obtain ⟨rfl, rfl⟩ := hq9
          obtain rfl := hs9
          refine tlm ?_; refine tv (o_extract rfl rfl) ?_; refine tv (o_extract rfl rfl) ?_; refine tla ?_; refine tla ?_; refine nq ?_; refine sr ?_; refine tlm ?_; refine tv (o_eqi rfl rfl) ?_; refine tlm ?_; refine tl_bool (d := 59) rfl (fun h => ?_) (fun h => ?_)
          · try simp only [lv1, lv2, lv3, lv4, lv5, lv6, Bool.not_true, Bool.not_false] at h
            refine tlm ?_; refine tv (o_len Try.underlying63 rfl) ?_; refine tv (o_eqi rfl rfl) ?_; refine tv (o_pick_t rfl (by conv => lhs; whnf)) ?_; refine tlm ?_; refine tl_bool (d := 64) rfl (fun h => ?_) (fun h => ?_)
            · try simp only [lv1, lv2, lv3, lv4, lv5, lv6, Bool.not_true, Bool.not_false] at h
              refine tlm ?_; refine tv (o_ixP (j := 0) (a := a39) Try.underlying63 sz70 rfl rfl (by decide) (nn_rs (xs := kcl [(64, [64, 65, 66, 67])] [v]) (by repeat (first | assumption | with_reducible exact rs_sl | with_reducible exact rs_pt0 | exact rs_none | apply Rs.left)) (fun _ => by show 0 < 2; decide))) ?_; refine tv (o_faP (a := a39) (m := 0) (o := 0) Try.underlying70 rfl rfl sz3 rfl (nn_rs (xs := kcl [(64, [64, 65, 66, 67])] [v]) (by repeat (first | assumption | with_reducible exact rs_sl | with_reducible exact rs_pt0 | exact rs_none | apply Rs.left)) (fun _ => by show 0 < 2; decide))) ?_; refine tv (o_ldP (a := a39) (xs := kcl [(64, [64, 65, 66, 67])] [v]) p3 rfl (by repeat (first | assumption | with_reducible exact rs_sl | with_reducible exact rs_pt0 | exact rs_none | apply Rs.left)) rfl) ?_; refine tl_env (d := 68) (v := .int .i64 64) (rfl) ?_; refine tv (o_eqi rfl rfl) ?_; refine tv (o_pick_t rfl (by conv => lhs; whnf)) ?_; refine tlm ?_; refine tl_bool (d := 71) rfl (fun h => ?_) (fun h => ?_)
              · try simp only [lv1, lv2, lv3, lv4, lv5, lv6, Bool.not_true, Bool.not_false] at h
                refine tlm ?_; refine tv (o_eqi rfl rfl) ?_; refine tv (o_pick_t rfl (by conv => lhs; whnf)) ?_; refine tlm ?_; refine tl_bool (d := 75) rfl (fun h => ?_) (fun h => ?_)
                · try simp only [lv1, lv2, lv3, lv4, lv5, lv6, Bool.not_true, Bool.not_false] at h
                  refine tlm ?_; refine tv (o_eqi rfl rfl) ?_; refine tv (o_pick_t rfl (by conv => lhs; whnf)) ?_; refine tlm ?_; refine tl_bool (d := 79) rfl (fun h => ?_) (fun h => ?_)
                  · try simp only [lv1, lv2, lv3, lv4, lv5, lv6, Bool.not_true, Bool.not_false] at h
                    refine tlm ?_; refine tv (o_eqi rfl rfl) ?_; refine tv (o_pick_t rfl (by conv => lhs; whnf)) ?_; refine tlm ?_; refine tl_bool (d := 83) rfl (fun h => ?_) (fun h => ?_)
                    · try simp only [lv1, lv2, lv3, lv4, lv5, lv6, Bool.not_true, Bool.not_false] at h
                      refine tlm ?_; refine tl_x rfl (o_buildSliceL (k := 1) (vs := bys [64, 65, 66, 67]) (l := bys [64, 65, 66, 67]) Try.underlying60 sz5 z5 rfl rfl (by decide) (by decide) (by intro v hv; simp only [bys, b8, List.map_cons, List.map_nil, List.mem_cons, List.not_mem_nil, or_false] at hv; rcases hv with rfl | rfl | rfl | rfl <;> rfl) rfl) ?_; rintro _ _ ⟨b85, rfl, rfl⟩; refine tl_c rfl (o_call bd34 rfl (EqBytes_c (xs := ((imgS s3).drop 64).take 4) (ys := [64, 65, 66, 67]) (h1 := (by repeat (first | assumption | with_reducible exact rs_sl | with_reducible exact rs_pt0 | exact rs_none | apply Rs.left))) (h2 := show Rs _ _ (bys [64, 65, 66, 67]) from by repeat (first | exact rs_pt rfl | apply Rs.left)) (hx := by rw [k8]; rfl) (hy := rfl))) ?_; rintro _ _ ⟨rfl, rfl⟩; refine tl_env (d := 86) (v := .bool true) (by show Value.bool (decide _) = _; rw [decide_eq_true k8]) ?_; refine tv (o_pick_t rfl (by conv => lhs; whnf)) ?_; refine tlm ?_; refine tl_bool (d := 88) rfl (fun h => ?_) (fun h => ?_)
                      · try simp only [lv1, lv2, lv3, lv4, lv5, lv6, Bool.not_true, Bool.not_false] at h
                        refine tlm ?_; refine tv (o_eqi rfl rfl) ?_; refine tv (o_pick_t rfl (by conv => lhs; whnf)) ?_; refine tlm ?_; refine tl_bool (d := 92) rfl (fun h => ?_) (fun h => ?_)
                        · try simp only [lv1, lv2, lv3, lv4, lv5, lv6, Bool.not_true, Bool.not_false] at h
                          refine tlm ?_; refine tv (o_eqi rfl rfl) ?_; refine tv (o_pick_t rfl (by conv => lhs; whnf)) ?_; refine tla ?_; refine nq ?_; refine tc_ret ?_; exact ⟨.bool true, A, res1 rfl rfl, Dr.sat (by repeat (first | with_reducible exact dr_refl | apply dr_keep | apply dr_drop)), rfl, rfl⟩
                        · exfalso; simp at h
                      · exfalso; simp at h
                    · exfalso; simp at h
                  · exfalso; simp at h
                · exfalso; simp at h
              · exfalso; simp at h
            · exfalso; simp at h
          · exfalso; simp at h
end Go.Vl

set_option linter.unusedVariables false
set_option linter.unusedSimpArgs false
namespace Go.Vl
open Go Go.Proofs
def NoL (A : SP) (v : Value) : Prop := v = .pointer none ∨ ∃ b, v = .pointer (some ⟨b, 0, none⟩) ∧ Has A b (cl [.pointer none, .int .i64 0, .int .i64 0] 52)
theorem NoL.left {A X : SP} {v : Value} (h : NoL A v) : NoL (A * X) v := h.imp id fun ⟨b, e, hc⟩ => ⟨b, e, has_left hc⟩
attribute [local irreducible] crk crL crc Sl pt ro Dev imgS recS readS recsF rdW rdO rkT Parts rvl recordsS mdI mdK rise mds writeS rollS
namespace Rg
end Rg
namespace Rg
end Rg
end Go.Vl

set_option linter.unusedVariables false
set_option linter.unusedSimpArgs false
namespace Go.Vl
open Go Go.Proofs
def lst (xs : List Int) (i : Nat) : List (Int × Int) := (xs.take i).map fun x => ((600 : Int), 1 + x % 90)
theorem xcl_snoc (l : List (Int × Int)) (x : Int × Int) : xcl (l ++ [x]) = xcl l ++ xcs x := by unfold xcl; simp
theorem xcl_nil : xcl [] = [] := rfl
theorem olds_len (I : List Nat) (l : List (Int × Int)) : (oldsL I l).length = l.length := by unfold oldsL; rw [List.length_map]
theorem kcl_f {L : List (Nat × List Nat)} {vs : List Value} {k : Nat} (h1 : vs.length = L.length) (h2 : k < L.length) : (kcl L vs)[k * 2 + 0]? = some (.int .i64 ((L.getD k (0, [])).1 : Nat)) ∧ (kcl L vs)[k * 2 + 1]? = some (vs.getD k (.slice none 0 0)) := by
  have h := kcl_at h1 h2
  constructor
  · have := congrArg (fun l : List Value => l[0]?) h
    rw [List.getElem?_take, if_pos (by decide), List.getElem?_drop] at this; exact this
  · have := congrArg (fun l : List Value => l[1]?) h
    rw [List.getElem?_take, if_pos (by decide), List.getElem?_drop] at this; exact this
attribute [local irreducible] crk crL crc Sl pt ro Dev imgS recS readS recsF rdW rdO rkT Parts rvl recordsS mdI mdK rise mds writeS rollS clearS oldsL kcl xcl lensX lst
end Go.Vl

set_option linter.unusedVariables false
set_option linter.unusedSimpArgs false
namespace Go.Vl
open Go Go.Proofs
theorem xcl_f {l : List (Int × Int)} {k : Nat} (h : k < l.length) : (xcl l)[k * 2 + 0]? = some (.int .i64 l[k].1) ∧ (xcl l)[k * 2 + 1]? = some (.int .i64 l[k].2) := by
  have h2 := xcl_at h
  constructor
  · have := congrArg (fun l : List Value => l[0]?) h2
    rw [List.getElem?_take, if_pos (by decide), List.getElem?_drop] at this; exact this
  · have := congrArg (fun l : List Value => l[1]?) h2
    rw [List.getElem?_take, if_pos (by decide), List.getElem?_drop] at this; exact this
/-- An extent, brought to where it may be. -/
def brN (x : Int × Int) : Int := 1 + (IntKind.i64.wrap (x.2 - 1)) % 40
def brX (x : Int × Int) : Int × Int := (if 256 ≤ x.1 ∨ x.1 < 0 then 512 + x.1 % (512 - brN x + 1) else 64 + x.1 % (64 - brN x + 1), brN x)
theorem brN_b (x : Int × Int) : 1 ≤ brN x ∧ brN x ≤ 40 := by unfold brN; omega
theorem brX_b (x : Int × Int) : 1 ≤ (brX x).2 ∧ (brX x).2 ≤ 40 ∧ ((64 ≤ (brX x).1 ∧ (brX x).1 + (brX x).2 ≤ 128) ∨ (512 ≤ (brX x).1 ∧ (brX x).1 + (brX x).2 ≤ 1024)) := by
  have h := brN_b x
  unfold brX
  refine ⟨h.1, h.2, ?_⟩
  simp only
  have h1 : 0 ≤ x.1 % (512 - brN x + 1) := Int.emod_nonneg _ (by omega)
  have h2 : x.1 % (512 - brN x + 1) < 512 - brN x + 1 := Int.emod_lt_of_pos _ (by omega)
  have h3 : 0 ≤ x.1 % (64 - brN x + 1) := Int.emod_nonneg _ (by omega)
  have h4 : x.1 % (64 - brN x + 1) < 64 - brN x + 1 := Int.emod_lt_of_pos _ (by omega)
  split <;> omega
def brL (es : List (Int × Int)) (i : Nat) : List (Int × Int) := (es.take i).map brX
theorem brL_zero (es : List (Int × Int)) : brL es 0 = [] := rfl
theorem brL_succ {es : List (Int × Int)} {i : Nat} (h : i < es.length) : brL es (i + 1) = brL es i ++ [brX es[i]] := by
  unfold brL; rw [List.take_succ_eq_append_getElem h, List.map_append]; rfl
theorem brL_len {es : List (Int × Int)} {i : Nat} (h : i ≤ es.length) : (brL es i).length = i := by unfold brL; rw [List.length_map, List.length_take]; omega
theorem brL_mem {es : List (Int × Int)} {i : Nat} {x : Int × Int} (h : x ∈ brL es i) : 1 ≤ x.2 ∧ x.2 ≤ 40 ∧ ((64 ≤ x.1 ∧ x.1 + x.2 ≤ 128) ∨ (512 ≤ x.1 ∧ x.1 + x.2 ≤ 1024)) := by
  obtain ⟨y, _, rfl⟩ := List.mem_map.1 h; exact brX_b y
theorem brL_may (es : List (Int × Int)) (i : Nat) : (brL es i).all (mayX 1024 128 384) = true := List.all_eq_true.2 fun x hx => by
  obtain ⟨h1, h2, h3⟩ := brL_mem hx
  exact decide_eq_true (by omega)
theorem brL_need {es : List (Int × Int)} {i : Nat} (hi : i ≤ 5) : needN (brL es i) ≤ 320 := by
  have : ∀ {l : List (Int × Int)}, (∀ x ∈ l, 1 ≤ x.2 ∧ x.2 ≤ 40) → needN l ≤ 64 * l.length := fun {l} => by
    induction l with
    | nil => intro _; exact Nat.le_refl _
    | cons x l ih =>
      intro h
      have h1 := h x (by simp)
      have h2 := ih fun x hx => h x (List.mem_cons_of_mem _ hx)
      rw [needN_cons, List.length_cons]
      have h3 : 24 + up8 x.2.toNat ≤ 64 := by unfold up8 pad8; omega
      omega
  have h := this (l := brL es i) fun x hx => by obtain ⟨h1, h2, _⟩ := brL_mem hx; exact ⟨h1, h2⟩
  have hl : (brL es i).length ≤ i := by unfold brL; rw [List.length_map, List.length_take]; omega
  omega
def fiveX (k : Nat) : List (Int × Int) := (List.range k).map fun i : Nat => ((64 : Int), 1 + (i : Int))
attribute [local irreducible] crk crL crc Sl pt ro Dev imgS recS readS recsF rdW rdO rkT Parts rvl recordsS mdI mdK rise mds writeS rollS clearS oldsL kcl xcl lensX lst brL brX fiveX
set_option maxRecDepth 20000 in
set_option maxHeartbeats 2000000 in
theorem brought_c {A : SP} {ae : Option Addr} {ne ce : Nat} {es : List (Int × Int)} {v1 v2 v3 : Value} (hr : Rs A ae (xcl es) := by repeat (first | assumption | with_reducible exact rs_sl | with_reducible exact rs_pt0 | exact rs_none | apply Rs.left)) (hm : es.length = ne := by first | assumption | rfl) (hX : ∀ x ∈ es, XW x := by assumption) (hne : ne ≤ 4611686018427387904 := by omega) :
    Fn Try.prog 22 #[.agg #[.slice ae ne ce, v1, v2, v3]] (A) (fun r B => ∃ n a c, r = .slice a n c ∧ n ≤ c ∧ n ≤ 5 ∧ n ≤ es.length ∧ B = A * Sl 2 (.slice a n c) n (xcl (brL es n))) := by
  refine fn_enterW (args := [.agg #[.slice ae ne ce, v1, v2, v3]]) Try.func22 rfl Try.ntmps22 (by simp) ?_; refine sr ?_; refine tl_x rfl (o_box rfl rfl) ?_; rintro _ _ ⟨b1, rfl, rfl⟩; refine tla ?_; refine nq ?_; refine sr ?_; refine tla ?_; refine nq ?_; refine tc_seq ?_; refine sr ?_; refine tla ?_; refine nq ?_; refine tc_block ?_; refine tc_pre (A' := A * pt b1 (cl [.slice ae ne ce, v1, v2, v3] 56) * Sl 2 (.slice none 0 0) 0 (xcl (brL es 0))) (fun _ _ h => by rw [brL_zero, xcl_nil]; exact sl_nil h) ?_; refine tc_loop (fun kk ρ BB => ∃ (i : Nat) (a3 : Option Addr) (c3 : Nat), (i ≤ 5) ∧ (i ≤ es.length) ∧ (i ≤ c3) ∧ kk = 5 - i ∧ ρ 3 = .slice a3 i c3 ∧ ρ 4 = .int .i64 (i : Nat) ∧ ρ 1 = .pointer (some ⟨b1, 0, none⟩) ∧ Dr BB (A * pt b1 (cl [.slice ae ne ce, v1, v2, v3] 56) * Sl 2 (.slice a3 i c3) i (xcl (brL es i)))) (m := 5 - (0)) ?_ ?_
  · exact ⟨0, none, 0, by omega, by omega, by omega, rfl, rfl, rfl, rfl, (by repeat (first | with_reducible exact dr_refl | apply dr_keep | apply dr_drop))⟩
  · intro k ρ B hI
    obtain ⟨i, a3, c3, hp0, hp1, hp2, hkk1, hE3, hE4, hE1, hBA⟩ := hI
    refine tc_pre hBA.sat ?_
    clear hBA
    refine tc_env (d := 3) hE3 ?_; refine tc_env (d := 4) hE4 ?_; refine tc_env (d := 1) hE1 ?_
    clear hE3 hE4 hE1
    refine tc_seq ?_; refine tc_seq ?_; refine tc_cut (fun ρ BB => ∃ (bb : Bool), (bb = decide (i < ne ∧ i < 5)) ∧ ρ 15 = .bool bb ∧ ρ 1 = .pointer (some ⟨b1, 0, none⟩) ∧ ρ 3 = .slice a3 i c3 ∧ ρ 4 = .int .i64 (i : Nat) ∧ BB = A * pt b1 (cl [.slice ae ne ce, v1, v2, v3] 56) * Sl 2 (.slice a3 i c3) i (xcl (brL es i))) ?_ ?_
    · skip
      refine tc_reg ?_; refine tlm ?_; refine tv (o_fieldAddr (o := 0) Try.underlying56 rfl rfl sz53 rfl) ?_; refine tv (by first | exact o_load p53 rfl (by repeat (first | with_reducible exact has_here | with_reducible exact has_pt | apply has_left)) rfl | exact o_loadC p53 rfl (by assumption)) ?_; refine tv (o_len Try.underlying53 rfl) ?_; refine tv (o_lss rfl rfl) ?_; refine tlm ?_; refine tl_bool (d := 12) rfl (fun h => ?_) (fun h => ?_)
      · have g12 : (i < ne) := by first | exact of_decide_eq_true h | (have h2 := h; simp at h2; omega) | simpa using h
        refine tlm ?_; refine tv (o_lss rfl rfl) ?_; refine tv (o_pick_t rfl (by conv => lhs; whnf)) ?_; refine tl_nil ?_; exact ⟨_, by first | exact (decide_eq_true (by omega)).symm | exact (decide_eq_false (by omega)).symm | (rw [decide_eq_decide]; omega), rfl, rfl, rfl, rfl, rfl⟩
      · have g12 : ¬ (i < ne) := by first | exact of_decide_eq_false h | (have h2 := h; simp at h2; omega) | simpa using h
        refine tk ?_; refine tk ?_; refine tv (o_pick_f rfl (by conv => lhs; whnf)) ?_; refine tl_nil ?_; exact ⟨_, by first | exact (decide_eq_true (by omega)).symm | exact (decide_eq_false (by omega)).symm | (rw [decide_eq_decide]; omega), rfl, rfl, rfl, rfl, rfl⟩
    · intro ρ B hI
      obtain ⟨bb, hbb0, hE15, hE1, hE3, hE4, rfl⟩ := hI
      refine q_then_n ?_; refine tc_env (d := 15) hE15 ?_; refine tc_env (d := 1) hE1 ?_; refine tc_env (d := 3) hE3 ?_; refine tc_env (d := 4) hE4 ?_
      clear hE15 hE1 hE3 hE4
      refine tc_cond rfl (fun h => ?_) (fun h => ?_)
      · have hlt := of_decide_eq_true (show decide (i < ne ∧ i < 5) = true by rw [← hbb0]; exact h)
        have hi : i < es.length := by omega
        obtain ⟨x, hx1⟩ : ∃ x, es[i] = x := ⟨_, rfl⟩
        have hxw := hX x (hx1 ▸ List.getElem_mem hi)
        have hxa := hxw.a
        have hxl := hxw.l
        obtain ⟨N, hN⟩ : ∃ N, brN x = N := ⟨_, rfl⟩
        have hNb := brN_b x
        rw [hN] at hNb
        have hw1 : -9223372036854775808 ≤ IntKind.i64.wrap (x.2 - 1) ∧ IntKind.i64.wrap (x.2 - 1) ≤ 9223372036854775807 := by simp [IntKind.wrap, IntKind.bits, IntKind.signed]; omega
        have e512 : 0 ≤ x.1 % (512 - N + 1) ∧ x.1 % (512 - N + 1) < 512 - N + 1 := ⟨Int.emod_nonneg _ (by omega), Int.emod_lt_of_pos _ (by omega)⟩
        have e64 : 0 ≤ x.1 % (64 - N + 1) ∧ x.1 % (64 - N + 1) < 64 - N + 1 := ⟨Int.emod_nonneg _ (by omega), Int.emod_lt_of_pos _ (by omega)⟩
        refine tc_skip ?_; refine q_then_n ?_; refine tc_seq ?_; refine tc_block ?_; refine sr ?_; refine tv (o_fieldAddr (o := 0) Try.underlying56 rfl rfl sz53 rfl) ?_; refine tv (by first | exact o_load p53 rfl (by repeat (first | with_reducible exact has_here | with_reducible exact has_pt | apply has_left)) rfl | exact o_loadC p53 rfl (by assumption)) ?_; refine tlm ?_; refine tv (o_ixP (a := ae) Try.underlying53 sz74 rfl rfl (by omega) (nn_rs (xs := xcl es) (by repeat (first | assumption | with_reducible exact rs_sl | with_reducible exact rs_pt0 | apply Rs.left)) (fun _ => by rw [xcl_len]; omega))) ?_; refine tv (o_faP (a := ae) (m := 0) (o := 1) Try.underlying74 rfl rfl sz3 rfl (nn_rs (xs := xcl es) (by repeat (first | assumption | with_reducible exact rs_sl | with_reducible exact rs_pt0 | apply Rs.left)) (fun _ => by rw [xcl_len]; omega))) ?_; refine tv (o_ldP (a := ae) (xs := xcl es) p3 rfl (by repeat (first | assumption | with_reducible exact rs_sl | with_reducible exact rs_pt0 | apply Rs.left)) (xcl_f (by omega)).2) ?_; refine tl_env (d := 23) (v := .int .i64 x.2) (by show Value.int .i64 (es[i]).2 = _; rw [hx1]) ?_; refine tv (o_sub rfl rfl) ?_; refine tl_env (d := 24) (v := .int .i64 (IntKind.i64.wrap (x.2 - 1))) (rfl) ?_; refine tl_c rfl (o_call bd13 rfl (within11_c (i := IntKind.i64.wrap (x.2 - 1)) (n := 40))) ?_; rintro _ _ ⟨rfl, rfl⟩
        refine tv (o_addI rfl rfl (by omega)) ?_; refine tl_env (d := 26) (v := .int .i64 N) (by show Value.int .i64 (1 + IntKind.i64.wrap (x.2 - 1) % 40) = _; rw [← hN]; rfl) ?_; refine tla ?_; refine nq ?_; refine sr ?_; refine tv (o_fieldAddr (o := 0) Try.underlying56 rfl rfl sz53 rfl) ?_; refine tv (by first | exact o_load p53 rfl (by repeat (first | with_reducible exact has_here | with_reducible exact has_pt | apply has_left)) rfl | exact o_loadC p53 rfl (by assumption)) ?_; refine tlm ?_; refine tv (o_ixP (a := ae) Try.underlying53 sz74 rfl rfl (by omega) (nn_rs (xs := xcl es) (by repeat (first | assumption | with_reducible exact rs_sl | with_reducible exact rs_pt0 | apply Rs.left)) (fun _ => by rw [xcl_len]; omega))) ?_; refine tv (o_faP (a := ae) (m := 0) (o := 0) Try.underlying74 rfl rfl sz3 rfl (nn_rs (xs := xcl es) (by repeat (first | assumption | with_reducible exact rs_sl | with_reducible exact rs_pt0 | apply Rs.left)) (fun _ => by rw [xcl_len]; omega))) ?_; refine tv (o_ldP (a := ae) (xs := xcl es) p3 rfl (by repeat (first | assumption | with_reducible exact rs_sl | with_reducible exact rs_pt0 | apply Rs.left)) (xcl_f (by omega)).1) ?_; refine tl_env (d := 32) (v := .int .i64 x.1) (by show Value.int .i64 (es[i]).1 = _; rw [hx1]) ?_; refine tlm ?_; refine tv (o_subI rfl rfl (by omega)) ?_
        refine tv (o_addI rfl rfl (by omega)) ?_; refine tl_c rfl (o_call bd13 rfl (within11_c (i := x.1) (n := 64 - N + 1))) ?_; rintro _ _ ⟨rfl, rfl⟩; refine tv (o_addI rfl rfl (by omega)) ?_; refine tla ?_; refine nq ?_; refine tc_seq ?_; refine tc_seq ?_; refine tc_cut (fun ρ BB => ∃ (bc : Bool), (bc = decide (256 ≤ x.1 ∨ x.1 < 0)) ∧ ρ 53 = .bool bc ∧ ρ 1 = .pointer (some ⟨b1, 0, none⟩) ∧ ρ 3 = .slice a3 i c3 ∧ ρ 4 = .int .i64 (i : Nat) ∧ ρ 5 = .int .i64 N ∧ ρ 6 = .int .i64 (64 + x.1 % (64 - N + 1)) ∧ BB = A * pt b1 (cl [.slice ae ne ce, v1, v2, v3] 56) * Sl 2 (.slice a3 i c3) i (xcl (brL es i))) ?_ ?_
        · skip
          refine tc_reg ?_; refine tv (o_fieldAddr (o := 0) Try.underlying56 rfl rfl sz53 rfl) ?_; refine tv (by first | exact o_load p53 rfl (by repeat (first | with_reducible exact has_here | with_reducible exact has_pt | apply has_left)) rfl | exact o_loadC p53 rfl (by assumption)) ?_; refine tlm ?_; refine tv (o_ixP (a := ae) Try.underlying53 sz74 rfl rfl (by omega) (nn_rs (xs := xcl es) (by repeat (first | assumption | with_reducible exact rs_sl | with_reducible exact rs_pt0 | apply Rs.left)) (fun _ => by rw [xcl_len]; omega))) ?_; refine tv (o_faP (a := ae) (m := 0) (o := 0) Try.underlying74 rfl rfl sz3 rfl (nn_rs (xs := xcl es) (by repeat (first | assumption | with_reducible exact rs_sl | with_reducible exact rs_pt0 | apply Rs.left)) (fun _ => by rw [xcl_len]; omega))) ?_; refine tv (o_ldP (a := ae) (xs := xcl es) p3 rfl (by repeat (first | assumption | with_reducible exact rs_sl | with_reducible exact rs_pt0 | apply Rs.left)) (xcl_f (by omega)).1) ?_; refine tl_env (d := 43) (v := .int .i64 x.1) (by show Value.int .i64 (es[i]).1 = _; rw [hx1]) ?_; refine tv (o_geq rfl rfl) ?_; refine tlm ?_; refine tl_bool (d := 45) rfl (fun h => ?_) (fun h => ?_)
          · have g45 : (256 ≤ x.1) := by first | exact of_decide_eq_true h | (have h2 := h; simp at h2; omega) | simpa using h
            refine tk ?_; refine tk ?_; refine tk ?_; refine tk ?_; refine tk ?_; refine tk ?_; refine tk ?_; refine tv (o_pick_t rfl (by conv => lhs; whnf)) ?_; refine tl_nil ?_; exact ⟨_, by first | exact (decide_eq_true (by omega)).symm | exact (decide_eq_false (by omega)).symm | (rw [decide_eq_decide]; omega), rfl, rfl, rfl, rfl, rfl, rfl, rfl⟩
          · have g45 : ¬ (256 ≤ x.1) := by first | exact of_decide_eq_false h | (have h2 := h; simp at h2; omega) | simpa using h
            refine tv (o_fieldAddr (o := 0) Try.underlying56 rfl rfl sz53 rfl) ?_; refine tv (by first | exact o_load p53 rfl (by repeat (first | with_reducible exact has_here | with_reducible exact has_pt | apply has_left)) rfl | exact o_loadC p53 rfl (by assumption)) ?_; refine tlm ?_; refine tv (o_ixP (a := ae) Try.underlying53 sz74 rfl rfl (by omega) (nn_rs (xs := xcl es) (by repeat (first | assumption | with_reducible exact rs_sl | with_reducible exact rs_pt0 | apply Rs.left)) (fun _ => by rw [xcl_len]; omega))) ?_; refine tv (o_faP (a := ae) (m := 0) (o := 0) Try.underlying74 rfl rfl sz3 rfl (nn_rs (xs := xcl es) (by repeat (first | assumption | with_reducible exact rs_sl | with_reducible exact rs_pt0 | apply Rs.left)) (fun _ => by rw [xcl_len]; omega))) ?_; refine tv (o_ldP (a := ae) (xs := xcl es) p3 rfl (by repeat (first | assumption | with_reducible exact rs_sl | with_reducible exact rs_pt0 | apply Rs.left)) (xcl_f (by omega)).1) ?_; refine tl_env (d := 51) (v := .int .i64 x.1) (by show Value.int .i64 (es[i]).1 = _; rw [hx1]) ?_; refine tv (o_lss rfl rfl) ?_; refine tv (o_pick_f rfl (by conv => lhs; whnf)) ?_; refine tl_nil ?_; exact ⟨_, by first | exact (decide_eq_true (by omega)).symm | exact (decide_eq_false (by omega)).symm | (rw [decide_eq_decide]; omega), rfl, rfl, rfl, rfl, rfl, rfl, rfl⟩
        · intro ρ B hI
          obtain ⟨bc, hbc0, hE53, hE1, hE3, hE4, hE5, hE6, rfl⟩ := hI
          refine q_then_n ?_; refine tc_env (d := 53) hE53 ?_; refine tc_env (d := 1) hE1 ?_; refine tc_env (d := 3) hE3 ?_; refine tc_env (d := 4) hE4 ?_; refine tc_env (d := 5) hE5 ?_; refine tc_env (d := 6) hE6 ?_
          clear hE53 hE1 hE3 hE4 hE5 hE6
          refine tc_cond rfl (fun h => ?_) (fun h => ?_)
          · have hor := of_decide_eq_true (show decide (256 ≤ x.1 ∨ x.1 < 0) = true by rw [← hbc0]; exact h)
            have hbe : (512 + x.1 % (512 - N + 1), N) = brX x := by unfold brX; rw [hN, if_pos hor]
            refine tc_reg ?_; refine tv (o_fieldAddr (o := 0) Try.underlying56 rfl rfl sz53 rfl) ?_; refine tv (by first | exact o_load p53 rfl (by repeat (first | with_reducible exact has_here | with_reducible exact has_pt | apply has_left)) rfl | exact o_loadC p53 rfl (by assumption)) ?_; refine tlm ?_; refine tv (o_ixP (a := ae) Try.underlying53 sz74 rfl rfl (by omega) (nn_rs (xs := xcl es) (by repeat (first | assumption | with_reducible exact rs_sl | with_reducible exact rs_pt0 | apply Rs.left)) (fun _ => by rw [xcl_len]; omega))) ?_; refine tv (o_faP (a := ae) (m := 0) (o := 0) Try.underlying74 rfl rfl sz3 rfl (nn_rs (xs := xcl es) (by repeat (first | assumption | with_reducible exact rs_sl | with_reducible exact rs_pt0 | apply Rs.left)) (fun _ => by rw [xcl_len]; omega))) ?_; refine tv (o_ldP (a := ae) (xs := xcl es) p3 rfl (by repeat (first | assumption | with_reducible exact rs_sl | with_reducible exact rs_pt0 | apply Rs.left)) (xcl_f (by omega)).1) ?_; refine tl_env (d := 59) (v := .int .i64 x.1) (by show Value.int .i64 (es[i]).1 = _; rw [hx1]) ?_; refine tlm ?_; refine tv (o_subI rfl rfl (by omega)) ?_; refine tv (o_addI rfl rfl (by omega)) ?_; refine tl_c rfl (o_call bd13 rfl (within11_c (i := x.1) (n := 512 - N + 1))) ?_; rintro _ _ ⟨rfl, rfl⟩; refine tv (o_addI rfl rfl (by omega)) ?_; refine tla ?_
            refine nq ?_; refine tc_reg ?_; refine tlm ?_; refine tlm ?_; refine tlm ?_; refine tv (o_bS (l := [_, _]) (pv_cons (by conv => lhs; whnf) (pv_cons (by conv => lhs; whnf) pv_nil)) Try.underlying74 z74 (pl74 Try.underlying74) rfl) ?_; refine tl_x rfl (o_buildSliceK (k := 2) (l := xcs (512 + x.1 % (512 - N + 1), N)) Try.underlying53 sz74 z74 rfl rfl (by decide)) ?_; rintro _ _ ⟨b69, rfl, rfl⟩; refine tl_x rfl (o_apB Try.underlying53 Try.underlying53 sz74 by74 z74 rfl (by decide) (by decide) rfl rfl rfl (by repeat (first | with_reducible exact ct_here | apply ct_left)) rfl rfl (by omega) (show _ = xcl (brL es i) ++ xcs (512 + x.1 % (512 - N + 1), N) from rfl)) ?_; rintro _ _ ⟨a70, c70, rfl, hc70, rfl⟩; refine tla ?_; refine tl_nil ?_; refine q_block_n (q_then_n ?_); refine tc_reg ?_; refine tlm ?_; refine tv (by first | exact o_addI rfl rfl (by omega) | exact o_add rfl rfl) ?_; refine tla ?_; refine nq ?_; exact ⟨_, by omega, i + 1, _, _, by omega, by omega, hc70, rfl, rfl, rfl, rfl, by rw [brL_succ hi, hx1, xcl_snoc, ← hbe]; repeat (first | with_reducible exact dr_refl | apply dr_keep | apply dr_drop)⟩
          · have hor := of_decide_eq_false (show decide (256 ≤ x.1 ∨ x.1 < 0) = false by rw [← hbc0]; exact h)
            have hbe : (64 + x.1 % (64 - N + 1), N) = brX x := by unfold brX; rw [hN, if_neg hor]
            refine tc_skip ?_; refine q_then_n ?_; refine tc_reg ?_; refine tlm ?_; refine tlm ?_; refine tlm ?_; refine tv (o_bS (l := [_, _]) (pv_cons (by conv => lhs; whnf) (pv_cons (by conv => lhs; whnf) pv_nil)) Try.underlying74 z74 (pl74 Try.underlying74) rfl) ?_; refine tl_x rfl (o_buildSliceK (k := 2) (l := xcs (64 + x.1 % (64 - N + 1), N)) Try.underlying53 sz74 z74 rfl rfl (by decide)) ?_; rintro _ _ ⟨b69, rfl, rfl⟩; refine tl_x rfl (o_apB Try.underlying53 Try.underlying53 sz74 by74 z74 rfl (by decide) (by decide) rfl rfl rfl (by repeat (first | with_reducible exact ct_here | apply ct_left)) rfl rfl (by omega) (show _ = xcl (brL es i) ++ xcs (64 + x.1 % (64 - N + 1), N) from rfl)) ?_; rintro _ _ ⟨a70, c70, rfl, hc70, rfl⟩; refine tla ?_; refine tl_nil ?_; refine q_block_n (q_then_n ?_); refine tc_reg ?_; refine tlm ?_; refine tv (by first | exact o_addI rfl rfl (by omega) | exact o_add rfl rfl) ?_; refine tla ?_; refine nq ?_; exact ⟨_, by omega, i + 1, _, _, by omega, by omega, hc70, rfl, rfl, rfl, rfl, by rw [brL_succ hi, hx1, xcl_snoc, ← hbe]; repeat (first | with_reducible exact dr_refl | apply dr_keep | apply dr_drop)⟩
      · try simp only [lv1, lv2, lv3, lv4, lv5, lv6, Bool.not_true, Bool.not_false] at h
        refine tc_exit ?_; refine q_then_e (q_then_e (q_block_x (q_then_n ?_))); refine sr ?_; refine tlm ?_; refine tla ?_; refine nq ?_; refine tc_ret ?_; exact ⟨.slice a3 i c3, A * Sl 2 (.slice a3 i c3) i (xcl (brL es i)), res1 rfl rfl, Dr.sat (by repeat (first | with_reducible exact dr_refl | apply dr_keep | apply dr_drop)), i, a3, c3, rfl, hp2, hp0, hp1, rfl⟩
end Go.Vl

set_option linter.unusedVariables false
set_option linter.unusedSimpArgs false
namespace Go.Vl
open Go Go.Proofs
/-- The bytes of records can be read. -/
def PsR (A : SP) (L : List (Nat × List Nat)) (vs : List Value) : Prop := ∀ k, k < L.length → ∃ b c, vs.getD k (.slice none 0 0) = .slice b (L.getD k (0, [])).2.length c ∧ Rs A b (bys (L.getD k (0, [])).2) ∧ (L.getD k (0, [])).2.length ≤ 4294967296
theorem psr_of {A : SP} {L : List (Nat × List Nat)} {vs : List Value} (h1 : vs.length = L.length) (h2 : ∀ k, k < L.length → ∃ b c, vs.getD k (.slice none 0 0) = .slice b (L.getD k (0, [])).2.length c ∧ (L.getD k (0, [])).2.length ≤ c) (h3 : ∀ x ∈ L, x.2.length ≤ 4294967296) : PsR (A * Parts vs (L.map (·.2))) L vs := fun k hk => by
  obtain ⟨b, c, e, _⟩ := h2 k hk
  exact ⟨b, c, e, parts_rsL h1 hk e A, h3 _ (getD_mem hk)⟩
theorem PsR.left {A X : SP} {L : List (Nat × List Nat)} {vs : List Value} (h : PsR A L vs) : PsR (A * X) L vs := fun k hk => by
  obtain ⟨b, c, e, hr, hl⟩ := h k hk; exact ⟨b, c, e, hr.left, hl⟩
theorem olds_take {I : List Nat} {l : List (Int × Int)} {i : Nat} (h : i < l.length) {p m : Nat} (hx : l[i] = ((p : Int), (m : Int))) : oldsL I (l.take (i + 1)) = oldsL I (l.take i) ++ [(p, (I.drop p).take m)] := by
  rw [List.take_succ_eq_append_getElem h, hx]; unfold oldsL; rw [List.map_append]; rfl
theorem kcl_nil : kcl [] [] = [] := rfl
theorem olds_nil (I : List Nat) : oldsL I [] = [] := rfl
theorem list_step {α : Type} [Inhabited α] {xs ys : List α} {i : Nat} {d : α} (h : xs.take i = ys.take i) (hi : i < xs.length) (hj : i < ys.length) (e : xs.getD i d = ys.getD i d) : xs.take (i + 1) = ys.take (i + 1) := by
  rw [List.take_succ_eq_append_getElem hi, List.take_succ_eq_append_getElem hj, h]
  rw [List.getD_eq_getElem?_getD, List.getD_eq_getElem?_getD, List.getElem?_eq_getElem hi, List.getElem?_eq_getElem hj] at e
  simp only [Option.getD_some] at e
  rw [e]
attribute [local irreducible] crk crL crc Sl pt ro Dev imgS recS readS recsF rdW rdO rkT Parts rvl recordsS mdI mdK rise mds writeS rollS clearS oldsL kcl xcl lensX lst brL brX fiveX
set_option maxRecDepth 20000 in
set_option maxHeartbeats 2000000 in
theorem olds_c {A : SP} {a b : Option Addr} {n c N e : Nat} {I : List Nat} {l : List (Int × Int)} (hI : Rs A a (bys I) := by repeat (first | assumption | with_reducible exact rs_sl | with_reducible exact rs_pt0 | exact rs_none | apply Rs.left)) (hr : Rs A b (xcl l) := by repeat (first | assumption | with_reducible exact rs_sl | with_reducible exact rs_pt0 | exact rs_none | apply Rs.left)) (hIl : I.length = N := by first | assumption | rfl) (hm : l.length = n := by first | assumption | rfl) (hmc : N ≤ c := by omega) (hk : N ≤ 1073741824 := by omega) (hn : n ≤ 1048576 := by omega) (hl : ∀ x ∈ l, 1 ≤ x.2 ∧ 0 ≤ x.1 ∧ x.1 + x.2 ≤ N) :
    Fn Try.prog 26 #[.slice a N c, .slice b n e] (A) (fun r B => ∃ a2 c2 vs, r = .slice a2 n c2 ∧ n ≤ c2 ∧ vs.length = (oldsL I l).length ∧ B = A * Parts vs ((oldsL I l).map (·.2)) * Sl 2 (.slice a2 n c2) n (kcl (oldsL I l) vs)) := by
  refine fn_enterW (args := [.slice a N c, .slice b n e]) Try.func26 rfl Try.ntmps26 (by simp) ?_; refine sr ?_; refine tla ?_; refine nq ?_; refine sr ?_; refine tla ?_; refine nq ?_; refine tc_seq ?_; refine sr ?_; refine tla ?_; refine nq ?_; refine tc_block ?_; refine tc_pre (A' := A * Parts [] ((oldsL I (l.take 0)).map (·.2)) * Sl 2 (.slice none 0 0) 0 (kcl (oldsL I (l.take 0)) [])) (fun _ _ h => by rw [List.take_zero, olds_nil, List.map_nil, kcl_nil]; exact sl_nil (show sat _ _ (A * Parts [] []) by rw [show Parts [] [] = emp by unfold Parts; rfl, star_emp]; exact h)) ?_; refine tc_loop (fun kk ρ BB => ∃ (i : Nat) (vs : List Value) (a5 : Option Addr) (c5 : Nat), (i ≤ n) ∧ (vs.length = i) ∧ (i ≤ c5) ∧ kk = n - i ∧ ρ 5 = .slice a5 i c5 ∧ ρ 6 = .int .i64 (i : Nat) ∧ ρ 0 = .slice a N c ∧ ρ 1 = .slice b n e ∧ Dr BB (A * Parts vs ((oldsL I (l.take i)).map (·.2)) * Sl 2 (.slice a5 i c5) i (kcl (oldsL I (l.take i)) vs))) (m := n - (0)) ?_ ?_
  · exact ⟨0, [], none, 0, by omega, rfl, by omega, rfl, rfl, rfl, rfl, rfl, (by repeat (first | with_reducible exact dr_refl | apply dr_keep | apply dr_drop))⟩
  · intro k ρ B hI
    obtain ⟨i, vs, a5, c5, hp0, hp1, hp2, hkk1, hE5, hE6, hE0, hE1, hBA⟩ := hI
    refine tc_pre hBA.sat ?_
    clear hBA
    refine tc_env (d := 5) hE5 ?_; refine tc_env (d := 6) hE6 ?_; refine tc_env (d := 0) hE0 ?_; refine tc_env (d := 1) hE1 ?_
    clear hE5 hE6 hE0 hE1
    refine tc_seq ?_; refine sr ?_; refine tlm ?_; refine tlm ?_; refine tv (o_len Try.underlying53 rfl) ?_; refine tv (o_lss rfl rfl) ?_; refine nq ?_; refine tc_cond rfl (fun h => ?_) (fun h => ?_)
    · have hi : i < l.length := by first | omega | (simp at h; omega)
      obtain ⟨x, hx1⟩ : ∃ x, l[i] = x := ⟨_, rfl⟩
      obtain ⟨x1, x2, x3⟩ := hl x (hx1 ▸ List.getElem_mem hi)
      obtain ⟨p, hp9⟩ := Int.eq_ofNat_of_zero_le x2
      obtain ⟨m, hm9⟩ := Int.eq_ofNat_of_zero_le (show 0 ≤ x.2 by omega)
      obtain rfl : x = ((p : Int), (m : Int)) := Prod.ext hp9 hm9
      simp only at x1 x3
      have hot := olds_take (I := I) hi hx1
      have hol : (oldsL I (l.take i)).length = i := by rw [olds_len, List.length_take]; omega
      have hdl : ((I.drop p).take m).length = m := by rw [List.length_take, List.length_drop]; omega
      refine tc_skip ?_; refine q_then_n ?_; refine tc_seq ?_; refine tc_block ?_; refine tc_regh (S := A) mo (by repeat (first | with_reducible exact dr_refl | apply dr_keep | apply dr_drop)) ?_
      show TH _ _ _ _ _ 29 #[ff,ff,ff,ff,ff,ff,ff,ff,ff,ff,ff,ff,ff,ff,ff,ff,ff,ff,ff,ff,ff,ff,ff,ff,ff,ff,ff,ff,ff] _ _
      refine th_take (i := 0) (listed' := #[tt,ff,ff,ff,ff,ff,ff,ff,ff,ff,ff,ff,ff,ff,ff,ff,ff,ff,ff,ff,ff,ff,ff,ff,ff,ff,ff,ff,ff]) rfl (by kernel_rfl) (by kernel_rfl) (by kernel_rfl) rfl rfl (o_move (by conv => lhs; whnf)) ?_; refine th_take (i := 1) (listed' := #[tt,tt,ff,ff,ff,ff,ff,ff,ff,ff,ff,ff,ff,ff,ff,ff,ff,ff,ff,ff,ff,ff,ff,ff,ff,ff,ff,ff,ff]) rfl (by kernel_rfl) (by kernel_rfl) (by kernel_rfl) rfl rfl (o_move (by conv => lhs; whnf)) ?_; refine th_take (i := 2) (listed' := #[tt,tt,tt,ff,ff,ff,ff,ff,ff,ff,ff,ff,ff,ff,ff,ff,ff,ff,ff,ff,ff,ff,ff,ff,ff,ff,ff,ff,ff]) rfl (by kernel_rfl) (by kernel_rfl) (by kernel_rfl) rfl rfl (o_move (by conv => lhs; whnf)) ?_; refine th_take (i := 3) (listed' := #[tt,tt,tt,tt,ff,ff,ff,ff,ff,ff,ff,ff,ff,ff,ff,ff,ff,ff,ff,ff,ff,ff,ff,ff,ff,ff,ff,ff,ff]) rfl (by kernel_rfl) (by kernel_rfl) (by kernel_rfl) rfl rfl (o_ixP (a := b) Try.underlying53 sz74 rfl rfl (by omega) (nn_rs (xs := xcl l) (by repeat (first | assumption | with_reducible exact rs_sl | with_reducible exact rs_pt0 | apply Rs.left)) (fun _ => by rw [xcl_len]; omega))) ?_; refine th_take (i := 4) (listed' := #[tt,tt,tt,tt,tt,ff,ff,ff,ff,ff,ff,ff,ff,ff,ff,ff,ff,ff,ff,ff,ff,ff,ff,ff,ff,ff,ff,ff,ff]) rfl (by kernel_rfl) (by kernel_rfl) (by kernel_rfl) rfl rfl (o_faP (a := b) (m := 0) (o := 0) Try.underlying74 rfl rfl sz3 rfl (nn_rs (xs := xcl l) (by repeat (first | assumption | with_reducible exact rs_sl | with_reducible exact rs_pt0 | apply Rs.left)) (fun _ => by rw [xcl_len]; omega))) ?_
      refine th_take (i := 5) (listed' := #[tt,tt,tt,tt,tt,tt,ff,ff,ff,ff,ff,ff,ff,ff,ff,ff,ff,ff,ff,ff,ff,ff,ff,ff,ff,ff,ff,ff,ff]) rfl (by kernel_rfl) (by kernel_rfl) (by kernel_rfl) rfl rfl (o_ldP (a := b) (xs := xcl l) p3 rfl (by repeat (first | assumption | with_reducible exact rs_sl | with_reducible exact rs_pt0 | apply Rs.left)) (xcl_f (by omega)).1) ?_; refine th_env (d := 18) (v := .int .i64 (p : Nat)) (by show Value.int .i64 (l[i]).1 = _; rw [hx1]) ?_; refine th_take (i := 6) (listed' := #[tt,tt,tt,tt,tt,tt,tt,ff,ff,ff,ff,ff,ff,ff,ff,ff,ff,ff,ff,ff,ff,ff,ff,ff,ff,ff,ff,ff,ff]) rfl (by kernel_rfl) (by kernel_rfl) (by kernel_rfl) rfl rfl (o_move (by conv => lhs; whnf)) ?_; refine th_take (i := 7) (listed' := #[tt,tt,tt,tt,tt,tt,tt,tt,ff,ff,ff,ff,ff,ff,ff,ff,ff,ff,ff,ff,ff,ff,ff,ff,ff,ff,ff,ff,ff]) rfl (by kernel_rfl) (by kernel_rfl) (by kernel_rfl) rfl rfl (o_move (by conv => lhs; whnf)) ?_; refine th_take (i := 8) (listed' := #[tt,tt,tt,tt,tt,tt,tt,tt,tt,ff,ff,ff,ff,ff,ff,ff,ff,ff,ff,ff,ff,ff,ff,ff,ff,ff,ff,ff,ff]) rfl (by kernel_rfl) (by kernel_rfl) (by kernel_rfl) rfl rfl (o_move (by conv => lhs; whnf)) ?_; refine th_take (i := 9) (listed' := #[tt,tt,tt,tt,tt,tt,tt,tt,tt,tt,ff,ff,ff,ff,ff,ff,ff,ff,ff,ff,ff,ff,ff,ff,ff,ff,ff,ff,ff]) rfl (by kernel_rfl) (by kernel_rfl) (by kernel_rfl) rfl rfl (o_ixP (a := b) Try.underlying53 sz74 rfl rfl (by omega) (nn_rs (xs := xcl l) (by repeat (first | assumption | with_reducible exact rs_sl | with_reducible exact rs_pt0 | apply Rs.left)) (fun _ => by rw [xcl_len]; omega))) ?_
      refine th_take (i := 10) (listed' := #[tt,tt,tt,tt,tt,tt,tt,tt,tt,tt,tt,ff,ff,ff,ff,ff,ff,ff,ff,ff,ff,ff,ff,ff,ff,ff,ff,ff,ff]) rfl (by kernel_rfl) (by kernel_rfl) (by kernel_rfl) rfl rfl (o_faP (a := b) (m := 0) (o := 0) Try.underlying74 rfl rfl sz3 rfl (nn_rs (xs := xcl l) (by repeat (first | assumption | with_reducible exact rs_sl | with_reducible exact rs_pt0 | apply Rs.left)) (fun _ => by rw [xcl_len]; omega))) ?_; refine th_take (i := 11) (listed' := #[tt,tt,tt,tt,tt,tt,tt,tt,tt,tt,tt,tt,ff,ff,ff,ff,ff,ff,ff,ff,ff,ff,ff,ff,ff,ff,ff,ff,ff]) rfl (by kernel_rfl) (by kernel_rfl) (by kernel_rfl) rfl rfl (o_ldP (a := b) (xs := xcl l) p3 rfl (by repeat (first | assumption | with_reducible exact rs_sl | with_reducible exact rs_pt0 | apply Rs.left)) (xcl_f (by omega)).1) ?_; refine th_env (d := 24) (v := .int .i64 (p : Nat)) (by show Value.int .i64 (l[i]).1 = _; rw [hx1]) ?_; refine th_take (i := 12) (listed' := #[tt,tt,tt,tt,tt,tt,tt,tt,tt,tt,tt,tt,tt,ff,ff,ff,ff,ff,ff,ff,ff,ff,ff,ff,ff,ff,ff,ff,ff]) rfl (by kernel_rfl) (by kernel_rfl) (by kernel_rfl) rfl rfl (o_move (by conv => lhs; whnf)) ?_; refine th_take (i := 13) (listed' := #[tt,tt,tt,tt,tt,tt,tt,tt,tt,tt,tt,tt,tt,tt,ff,ff,ff,ff,ff,ff,ff,ff,ff,ff,ff,ff,ff,ff,ff]) rfl (by kernel_rfl) (by kernel_rfl) (by kernel_rfl) rfl rfl (o_move (by conv => lhs; whnf)) ?_; refine th_take (i := 14) (listed' := #[tt,tt,tt,tt,tt,tt,tt,tt,tt,tt,tt,tt,tt,tt,tt,ff,ff,ff,ff,ff,ff,ff,ff,ff,ff,ff,ff,ff,ff]) rfl (by kernel_rfl) (by kernel_rfl) (by kernel_rfl) rfl rfl (o_ixP (a := b) Try.underlying53 sz74 rfl rfl (by omega) (nn_rs (xs := xcl l) (by repeat (first | assumption | with_reducible exact rs_sl | with_reducible exact rs_pt0 | apply Rs.left)) (fun _ => by rw [xcl_len]; omega))) ?_
      refine th_take (i := 15) (listed' := #[tt,tt,tt,tt,tt,tt,tt,tt,tt,tt,tt,tt,tt,tt,tt,tt,ff,ff,ff,ff,ff,ff,ff,ff,ff,ff,ff,ff,ff]) rfl (by kernel_rfl) (by kernel_rfl) (by kernel_rfl) rfl rfl (o_faP (a := b) (m := 0) (o := 0) Try.underlying74 rfl rfl sz3 rfl (nn_rs (xs := xcl l) (by repeat (first | assumption | with_reducible exact rs_sl | with_reducible exact rs_pt0 | apply Rs.left)) (fun _ => by rw [xcl_len]; omega))) ?_; refine th_take (i := 16) (listed' := #[tt,tt,tt,tt,tt,tt,tt,tt,tt,tt,tt,tt,tt,tt,tt,tt,tt,ff,ff,ff,ff,ff,ff,ff,ff,ff,ff,ff,ff]) rfl (by kernel_rfl) (by kernel_rfl) (by kernel_rfl) rfl rfl (o_ldP (a := b) (xs := xcl l) p3 rfl (by repeat (first | assumption | with_reducible exact rs_sl | with_reducible exact rs_pt0 | apply Rs.left)) (xcl_f (by omega)).1) ?_; refine th_env (d := 29) (v := .int .i64 (p : Nat)) (by show Value.int .i64 (l[i]).1 = _; rw [hx1]) ?_; refine th_take (i := 17) (listed' := #[tt,tt,tt,tt,tt,tt,tt,tt,tt,tt,tt,tt,tt,tt,tt,tt,tt,tt,ff,ff,ff,ff,ff,ff,ff,ff,ff,ff,ff]) rfl (by kernel_rfl) (by kernel_rfl) (by kernel_rfl) rfl rfl (o_move (by conv => lhs; whnf)) ?_; refine th_take (i := 18) (listed' := #[tt,tt,tt,tt,tt,tt,tt,tt,tt,tt,tt,tt,tt,tt,tt,tt,tt,tt,tt,ff,ff,ff,ff,ff,ff,ff,ff,ff,ff]) rfl (by kernel_rfl) (by kernel_rfl) (by kernel_rfl) rfl rfl (o_move (by conv => lhs; whnf)) ?_; refine th_take (i := 19) (listed' := #[tt,tt,tt,tt,tt,tt,tt,tt,tt,tt,tt,tt,tt,tt,tt,tt,tt,tt,tt,tt,ff,ff,ff,ff,ff,ff,ff,ff,ff]) rfl (by kernel_rfl) (by kernel_rfl) (by kernel_rfl) rfl rfl (o_ixP (a := b) Try.underlying53 sz74 rfl rfl (by omega) (nn_rs (xs := xcl l) (by repeat (first | assumption | with_reducible exact rs_sl | with_reducible exact rs_pt0 | apply Rs.left)) (fun _ => by rw [xcl_len]; omega))) ?_
      refine th_take (i := 20) (listed' := #[tt,tt,tt,tt,tt,tt,tt,tt,tt,tt,tt,tt,tt,tt,tt,tt,tt,tt,tt,tt,tt,ff,ff,ff,ff,ff,ff,ff,ff]) rfl (by kernel_rfl) (by kernel_rfl) (by kernel_rfl) rfl rfl (o_faP (a := b) (m := 0) (o := 1) Try.underlying74 rfl rfl sz3 rfl (nn_rs (xs := xcl l) (by repeat (first | assumption | with_reducible exact rs_sl | with_reducible exact rs_pt0 | apply Rs.left)) (fun _ => by rw [xcl_len]; omega))) ?_; refine th_take (i := 21) (listed' := #[tt,tt,tt,tt,tt,tt,tt,tt,tt,tt,tt,tt,tt,tt,tt,tt,tt,tt,tt,tt,tt,tt,ff,ff,ff,ff,ff,ff,ff]) rfl (by kernel_rfl) (by kernel_rfl) (by kernel_rfl) rfl rfl (o_ldP (a := b) (xs := xcl l) p3 rfl (by repeat (first | assumption | with_reducible exact rs_sl | with_reducible exact rs_pt0 | apply Rs.left)) (xcl_f (by omega)).2) ?_; refine th_env (d := 34) (v := .int .i64 (m : Nat)) (by show Value.int .i64 (l[i]).2 = _; rw [hx1]) ?_; refine th_take (i := 22) (listed' := #[tt,tt,tt,tt,tt,tt,tt,tt,tt,tt,tt,tt,tt,tt,tt,tt,tt,tt,tt,tt,tt,tt,tt,ff,ff,ff,ff,ff,ff]) rfl (by kernel_rfl) (by kernel_rfl) (by kernel_rfl) rfl rfl (by first | exact o_addI rfl rfl (by omega) | exact o_add rfl rfl) ?_; refine th_env (d := 35) (v := .int .i64 ((p + m : Nat) : Int)) (by first | rfl | (show Value.int .i64 _ = _; congr 1; omega)) ?_; refine th_take (i := 23) (listed' := #[tt,tt,tt,tt,tt,tt,tt,tt,tt,tt,tt,tt,tt,tt,tt,tt,tt,tt,tt,tt,tt,tt,tt,tt,ff,ff,ff,ff,ff]) rfl (by kernel_rfl) (by kernel_rfl) (by kernel_rfl) rfl rfl (o_slice (l := p) (h := p + m) Try.underlying60 sz5 rfl (bnd_nat rfl) (bnd_nat rfl) (by omega) (by omega)) ?_
      refine th_env (d := 36) (v := .slice (cutAddr a c p 1) m (c - p)) (by show Value.slice (cutAddr a c p 1) (p + m - p) (c - p) = _; rw [show p + m - p = m by omega]) ?_; refine th_one (i := 24) (by kernel_rfl) ?_; refine oh_c (i := 24) (listed' := #[tt,tt,tt,tt,tt,tt,tt,tt,tt,tt,tt,tt,tt,tt,tt,tt,tt,tt,tt,tt,tt,tt,tt,tt,tt,ff,ff,ff,ff]) rfl rfl rfl (o_call bd59 rfl (CopyBytes_c (xs := (I.drop p).take m) (hr := by repeat (first | exact rs_mid (l := p) (m := m) hI (by omega) | apply Rs.left)) (hm := hdl))) ?_; rintro _ _ ⟨a37, c37, rfl, hc37, rfl⟩; refine ⟨by repeat (first | with_reducible exact dr_refl | apply dr_keep | apply dr_drop), ?_⟩; refine th_take (i := 25) (listed' := #[tt,tt,tt,tt,tt,tt,tt,tt,tt,tt,tt,tt,tt,tt,tt,tt,tt,tt,tt,tt,tt,tt,tt,tt,tt,tt,ff,ff,ff]) rfl (by kernel_rfl) (by kernel_rfl) (by kernel_rfl) rfl rfl (o_bS (l := [_, _]) (pv_cons (by conv => lhs; whnf) (pv_cons (by conv => lhs; whnf) pv_nil)) Try.underlying70 z70 (pl70 Try.underlying70) rfl) ?_; refine th_one (i := 26) (by kernel_rfl) ?_; refine oh_x (i := 26) (listed' := #[tt,tt,tt,tt,tt,tt,tt,tt,tt,tt,tt,tt,tt,tt,tt,tt,tt,tt,tt,tt,tt,tt,tt,tt,tt,tt,tt,ff,ff]) rfl rfl rfl (o_buildSliceK (k := 2) (l := [.int .i64 ((p : Nat) : Int), (.slice a37 m c37)]) Try.underlying63 sz70 z70 rfl rfl (by decide)) ?_; rintro _ _ ⟨b39, rfl, rfl⟩; refine ⟨by repeat (first | with_reducible exact dr_refl | apply dr_keep | apply dr_drop), ?_⟩; refine th_one (i := 27) (by kernel_rfl) ?_
      refine oh_x (i := 27) (listed' := #[tt,tt,tt,tt,tt,tt,tt,tt,tt,tt,tt,tt,tt,tt,tt,tt,tt,tt,tt,tt,tt,tt,tt,tt,tt,tt,tt,tt,ff]) rfl rfl rfl (o_apB Try.underlying63 Try.underlying63 sz70 by70 z70 rfl (by decide) (by decide) rfl rfl rfl (by repeat (first | with_reducible exact ct_here | apply ct_left)) rfl rfl (by omega) (show _ = kcl (oldsL I (l.take (i + 1))) (vs ++ [(.slice a37 m c37)]) by rw [hot, kcl_snoc (by omega)])) ?_; rintro _ _ ⟨a40, c40, rfl, hc40, rfl⟩; refine ⟨by repeat (first | with_reducible exact dr_refl | apply dr_keep | apply dr_drop), ?_⟩
      have hps : Parts (vs ++ [(.slice a37 m c37)]) ((oldsL I (l.take (i + 1))).map (·.2)) = Parts vs ((oldsL I (l.take i)).map (·.2)) * Sl 1 (.slice a37 m c37) m (bys ((I.drop p).take m)) := by rw [hot, List.map_append]; exact (parts_snoc (x := (I.drop p).take m) (by rw [List.length_map, hol]; omega)).trans (by rw [hdl])
      refine th_eq (show _ = A * Parts (vs ++ [(.slice a37 m c37)]) ((oldsL I (l.take (i + 1))).map (·.2)) * Sl 2 (.slice a40 (i + 1) c40) (i + 1) (kcl (oldsL I (l.take (i + 1))) (vs ++ [(.slice a37 m c37)])) by rw [hps]; ac_rfl) ?_; refine th_take (i := 28) (listed' := #[tt,tt,tt,tt,tt,tt,tt,tt,tt,tt,tt,tt,tt,tt,tt,tt,tt,tt,tt,tt,tt,tt,tt,tt,tt,tt,tt,tt,tt]) rfl (by kernel_rfl) (by kernel_rfl) (by kernel_rfl) rfl rfl (o_assign (by conv => lhs; whnf)) ?_; refine th_done (by kernel_rfl) ?_; refine q_block_n (q_then_n ?_); refine tc_reg ?_; refine tlm ?_; refine tv (by first | exact o_addI rfl rfl (by omega) | exact o_add rfl rfl) ?_; refine tla ?_; refine nq ?_; exact ⟨_, by omega, i + 1, vs ++ [(.slice a37 m c37)], a40, c40, by omega, by rw [List.length_append, hp1]; rfl, hc40, rfl, rfl, rfl, rfl, rfl, (by repeat (first | with_reducible exact dr_refl | apply dr_keep | apply dr_drop))⟩
    · obtain rfl : i = n := by first | omega | (simp at h; omega)
      have htk : l.take i = l := List.take_of_length_le (by omega)
      refine tc_exit ?_; refine q_then_e (q_then_e (q_block_x (q_then_n ?_))); refine sr ?_; refine tlm ?_; refine tla ?_; refine nq ?_; refine tc_ret ?_
      rw [htk]
      exact ⟨.slice a5 i c5, _, res1 rfl rfl, fun _ _ h => h, a5, c5, vs, rfl, hp2, by rw [olds_len]; omega, rfl⟩
set_option maxRecDepth 20000 in
set_option maxHeartbeats 2000000 in
theorem sameRecords_c {A : SP} {a b : Option Addr} {n m c e : Nat} {La Lb : List (Nat × List Nat)} {va vb : List Value} (ha : Rs A a (kcl La va) := by repeat (first | assumption | with_reducible exact rs_sl | with_reducible exact rs_pt0 | exact rs_none | apply Rs.left)) (hb : Rs A b (kcl Lb vb) := by repeat (first | assumption | with_reducible exact rs_sl | with_reducible exact rs_pt0 | exact rs_none | apply Rs.left)) (hva : va.length = La.length := by assumption) (hvb : vb.length = Lb.length := by assumption) (hna : La.length = n := by first | assumption | rfl) (hnb : Lb.length = m := by first | assumption | rfl) (hpa : PsR A La va) (hpb : PsR A Lb vb) (hbn : n ≤ 4611686018427387904 := by omega) :
    Fn Try.prog 27 #[.slice a n c, .slice b m e] (A) (fun r B => r = .bool (decide (La = Lb)) ∧ A = B) := by
  refine fn_enterW (args := [.slice a n c, .slice b m e]) Try.func27 rfl Try.ntmps27 (by simp) ?_; refine sr ?_; refine tla ?_; refine nq ?_; refine tc_seq ?_; refine sr ?_; refine tlm ?_; refine tv (o_len Try.underlying63 rfl) ?_; refine tlm ?_; refine tv (o_len Try.underlying63 rfl) ?_; refine tv (o_nei rfl rfl) ?_; refine nq ?_; refine tc_cond rfl (fun h => ?_) (fun h => ?_)
  · try simp only [lv1, lv2, lv3, lv4, lv5, lv6, Bool.not_true, Bool.not_false] at h
    refine sr ?_; refine tla ?_; refine nq ?_; refine tc_ret ?_; refine q_then_r ?_
    have e9 : decide (La = Lb) = false := decide_eq_false fun e => by subst e; first | omega | (simp at h; omega)
    rw [e9]
    exact ⟨.bool false, A, res1 rfl rfl, Dr.sat (by repeat (first | with_reducible exact dr_refl | apply dr_keep | apply dr_drop)), rfl, rfl⟩
  · obtain rfl : n = m := by first | omega | (simp at h; omega)
    refine tc_skip ?_; refine q_then_n ?_; refine tc_seq ?_; refine sr ?_; refine tla ?_; refine nq ?_; refine tc_block ?_; refine tc_loop (fun kk ρ BB => ∃ (i : Nat), (i ≤ n) ∧ (La.take i = Lb.take i) ∧ kk = n - i ∧ ρ 5 = .int .i64 (i : Nat) ∧ ρ 0 = .slice a n c ∧ ρ 1 = .slice b n e ∧ BB = A) (m := n - (0)) ?_ ?_
    · exact ⟨0, by omega, rfl, rfl, rfl, rfl, rfl, rfl⟩
    · intro k ρ B hI
      obtain ⟨i, hp0, hp1, hkk1, hE5, hE0, hE1, hBA⟩ := hI
      obtain rfl := hBA.symm
      refine tc_env (d := 5) hE5 ?_; refine tc_env (d := 0) hE0 ?_; refine tc_env (d := 1) hE1 ?_
      clear hE5 hE0 hE1
      refine tc_seq ?_; refine sr ?_; refine tlm ?_; refine tlm ?_; refine tv (o_len Try.underlying63 rfl) ?_; refine tv (o_lss rfl rfl) ?_; refine nq ?_; refine tc_cond rfl (fun h => ?_) (fun h => ?_)
      · have hi : i < La.length := by first | omega | (simp at h; omega)
        have hj : i < Lb.length := by omega
        obtain ⟨xb, xc, hv, hrb, hlb⟩ := hpa i hi
        obtain ⟨yb, yc, hu, hry, hly⟩ := hpb i hj
        obtain ⟨x, hx⟩ : ∃ x, La.getD i (0, []) = x := ⟨_, rfl⟩
        obtain ⟨y, hy⟩ : ∃ y, Lb.getD i (0, []) = y := ⟨_, rfl⟩
        have hka := kcl_f hva hi
        have hkb := kcl_f hvb hj
        rw [hx] at hv hrb hlb hka
        rw [hy] at hu hry hly hkb
        rw [hv] at hka
        rw [hu] at hkb
        refine tc_skip ?_; refine q_then_n ?_; refine tc_seq ?_; refine tc_block ?_; refine tc_seq ?_; refine tc_cut (fun ρ BB => ∃ (bq : Bool), (bq = !decide (La.getD i (0, []) = Lb.getD i (0, []))) ∧ ρ 41 = .bool bq ∧ ρ 0 = .slice a n c ∧ ρ 1 = .slice b n e ∧ ρ 5 = .int .i64 (i : Nat) ∧ BB = A) ?_ ?_
        · skip
          refine tc_regq mo (by kernel_rfl) ?_; refine ql_v rfl (o_move (by conv => lhs; whnf)) ?_; refine ql_v rfl (o_move (by conv => lhs; whnf)) ?_; refine ql_v rfl (o_ixP (a := a) Try.underlying63 sz70 rfl rfl (by omega) (nn_rs (xs := kcl La va) (by repeat (first | assumption | with_reducible exact rs_sl | with_reducible exact rs_pt0 | apply Rs.left)) (fun _ => by rw [kcl_len (by assumption)]; omega))) ?_; refine ql_v rfl (o_faP (a := a) (m := 0) (o := 0) Try.underlying70 rfl rfl sz3 rfl (nn_rs (xs := kcl La va) (by repeat (first | assumption | with_reducible exact rs_sl | with_reducible exact rs_pt0 | apply Rs.left)) (fun _ => by rw [kcl_len (by assumption)]; omega))) ?_; refine ql_v rfl (o_ldP (a := a) (xs := kcl La va) p3 rfl (by repeat (first | assumption | with_reducible exact rs_sl | with_reducible exact rs_pt0 | apply Rs.left)) hka.1) ?_; refine ql_v rfl (o_move (by conv => lhs; whnf)) ?_; refine ql_v rfl (o_move (by conv => lhs; whnf)) ?_; refine ql_v rfl (o_ixP (a := b) Try.underlying63 sz70 rfl rfl (by omega) (nn_rs (xs := kcl Lb vb) (by repeat (first | assumption | with_reducible exact rs_sl | with_reducible exact rs_pt0 | apply Rs.left)) (fun _ => by rw [kcl_len (by assumption)]; omega))) ?_; refine ql_v rfl (o_faP (a := b) (m := 0) (o := 0) Try.underlying70 rfl rfl sz3 rfl (nn_rs (xs := kcl Lb vb) (by repeat (first | assumption | with_reducible exact rs_sl | with_reducible exact rs_pt0 | apply Rs.left)) (fun _ => by rw [kcl_len (by assumption)]; omega))) ?_
          refine ql_v rfl (o_ldP (a := b) (xs := kcl Lb vb) p3 rfl (by repeat (first | assumption | with_reducible exact rs_sl | with_reducible exact rs_pt0 | apply Rs.left)) hkb.1) ?_; refine ql_v rfl (o_nei rfl rfl) ?_; refine ql_v rfl (o_move (by conv => lhs; whnf)) ?_; refine ql_bool (d := 28) rfl (fun h => ?_) (fun h => ?_)
          · have hne : x ≠ y := fun e => by subst e; simp at h
            refine ql_skip rfl ?_; refine ql_skip rfl ?_; refine ql_skip rfl ?_; refine ql_skip rfl ?_; refine ql_skip rfl ?_; refine ql_skip rfl ?_; refine ql_skip rfl ?_; refine ql_skip rfl ?_; refine ql_skip rfl ?_; refine ql_skip rfl ?_; refine ql_skip rfl ?_; refine ql_skip rfl ?_; refine ql_v rfl (o_pick_t rfl (by conv => lhs; whnf)) ?_; refine ql_nil ?_; exact ⟨_, by rw [hx, hy]; first | (rw [decide_eq_false hne]; rfl) | (congr 1; rw [decide_eq_decide]; exact ⟨fun h9 => Prod.ext h1eq h9, fun h9 => by rw [h9]⟩), rfl, rfl, rfl, rfl, rfl⟩
          · have h1eq : x.1 = y.1 := by first | (have h9 := of_decide_eq_false h; omega) | (simp at h; omega)
            refine ql_v rfl (o_move (by conv => lhs; whnf)) ?_; refine ql_v rfl (o_move (by conv => lhs; whnf)) ?_; refine ql_v rfl (o_ixP (a := a) Try.underlying63 sz70 rfl rfl (by omega) (nn_rs (xs := kcl La va) (by repeat (first | assumption | with_reducible exact rs_sl | with_reducible exact rs_pt0 | apply Rs.left)) (fun _ => by rw [kcl_len (by assumption)]; omega))) ?_; refine ql_v rfl (o_faP (a := a) (m := 0) (o := 1) Try.underlying70 rfl rfl sz60 rfl (nn_rs (xs := kcl La va) (by repeat (first | assumption | with_reducible exact rs_sl | with_reducible exact rs_pt0 | apply Rs.left)) (fun _ => by rw [kcl_len (by assumption)]; omega))) ?_; refine ql_v rfl (o_ldP (a := a) (xs := kcl La va) p60 rfl (by repeat (first | assumption | with_reducible exact rs_sl | with_reducible exact rs_pt0 | apply Rs.left)) hka.2) ?_; refine ql_v rfl (o_move (by conv => lhs; whnf)) ?_; refine ql_v rfl (o_move (by conv => lhs; whnf)) ?_; refine ql_v rfl (o_ixP (a := b) Try.underlying63 sz70 rfl rfl (by omega) (nn_rs (xs := kcl Lb vb) (by repeat (first | assumption | with_reducible exact rs_sl | with_reducible exact rs_pt0 | apply Rs.left)) (fun _ => by rw [kcl_len (by assumption)]; omega))) ?_; refine ql_v rfl (o_faP (a := b) (m := 0) (o := 1) Try.underlying70 rfl rfl sz60 rfl (nn_rs (xs := kcl Lb vb) (by repeat (first | assumption | with_reducible exact rs_sl | with_reducible exact rs_pt0 | apply Rs.left)) (fun _ => by rw [kcl_len (by assumption)]; omega))) ?_
            refine ql_v rfl (o_ldP (a := b) (xs := kcl Lb vb) p60 rfl (by repeat (first | assumption | with_reducible exact rs_sl | with_reducible exact rs_pt0 | apply Rs.left)) hkb.2) ?_; refine ql_c rfl (fun w => exec_call bd34 rfl) (EqBytes_c (xs := x.2) (ys := y.2) (h1 := hrb) (h2 := hry) (hx := rfl) (hy := rfl)) ?_; refine ql_v rfl (o_not rfl) ?_; refine ql_v rfl (o_pick_f rfl (by conv => lhs; whnf)) ?_; refine ql_nil ?_; exact ⟨_, by rw [hx, hy]; first | (rw [decide_eq_false hne]; rfl) | (congr 1; rw [decide_eq_decide]; exact ⟨fun h9 => Prod.ext h1eq h9, fun h9 => by rw [h9]⟩), rfl, rfl, rfl, rfl, rfl⟩
        · intro ρ B hI
          obtain ⟨bq, hbq0, hE41, hE0, hE1, hE5, hBA⟩ := hI
          obtain rfl := hBA.symm
          refine q_then_n ?_; refine tc_env (d := 41) hE41 ?_; refine tc_env (d := 0) hE0 ?_; refine tc_env (d := 1) hE1 ?_; refine tc_env (d := 5) hE5 ?_
          clear hE41 hE0 hE1 hE5
          refine tc_cond rfl (fun h => ?_) (fun h => ?_)
          · have hne : La ≠ Lb := fun e9 => by rw [h, e9] at hbq0; simp at hbq0
            refine sr ?_; refine tla ?_; refine nq ?_; refine tc_ret ?_; refine q_block_r (q_then_r (q_then_r (q_block_r (q_then_r ?_))))
            have e9 : decide (La = Lb) = false := decide_eq_false hne
            rw [e9]
            exact ⟨.bool false, A, res1 rfl rfl, Dr.sat (by repeat (first | with_reducible exact dr_refl | apply dr_keep | apply dr_drop)), rfl, rfl⟩
          · have heq : La.getD i (0, []) = Lb.getD i (0, []) := by rw [h] at hbq0; simpa using hbq0
            refine tc_skip ?_; refine q_block_n (q_then_n ?_); refine tc_reg ?_; refine tlm ?_; refine tv (by first | exact o_addI rfl rfl (by omega) | exact o_add rfl rfl) ?_; refine tla ?_; refine nq ?_; exact ⟨_, by omega, i + 1, by omega, list_step (d := (0, [])) hp1 (by omega) (by omega) heq, rfl, rfl, rfl, rfl, rfl⟩
      · obtain rfl : i = n := by first | omega | (simp at h; omega)
        refine tc_exit ?_; refine q_then_e (q_then_e (q_block_x (q_then_n ?_))); refine sr ?_; refine tla ?_; refine nq ?_; refine tc_ret ?_
        have e9 : decide (La = Lb) = true := decide_eq_true (by rw [List.take_of_length_le (by omega), List.take_of_length_le (by omega)] at hp1; exact hp1)
        rw [e9]
        exact ⟨.bool true, A, res1 rfl rfl, Dr.sat (by repeat (first | with_reducible exact dr_refl | apply dr_keep | apply dr_drop)), rfl, rfl⟩
end Go.Vl

set_option linter.unusedVariables false
set_option linter.unusedSimpArgs false
namespace Go.Vl
open Go Go.Proofs
def kpR (kp : List Int) (i : Nat) : List Int := (kp.take i).map fun x => x % 1000
theorem image_w {A R : SP} {C : SP → SP} {d : Nat} {s : DevS} (I : List Nat) (hl : s.ls.length = 16) (hi : imgS s = I) (hc : Ct A (Dev d s) R C := by repeat (first | with_reducible exact ct_here | apply ct_left)) : Fn Try.prog 23 #[.pointer (some ⟨d, 0, none⟩)] A (fun r B => ∃ a c, r = .slice a 1024 c ∧ 1024 ≤ c ∧ B = A * Sl 1 (.slice a 1024 c) 1024 (bys I)) := by
  have h := Image_c hc
  rw [hl, hi] at h
  exact h
attribute [local irreducible] crk crL crc Sl pt ro Dev imgS recS readS recsF rdW rdO rkT Parts rvl recordsS mdI mdK rise mds writeS rollS clearS oldsL kcl xcl lensX lst brL brX fiveX kpR
end Go.Vl

set_option linter.unusedVariables false
set_option linter.unusedSimpArgs false
namespace Go.Vl
open Go Go.Proofs
theorem flatG {α : Type} {f : α → List Value} : ∀ {Cs : List (List Value)} {xs : List α} (_ : Cs.length = xs.length) (_ : ∀ i (h : i < xs.length) (h' : i < Cs.length), Cs[i] = f xs[i]), Cs.flatten = xs.flatMap f
  | [], [], _, _ => rfl
  | c :: Cs, x :: xs, hl, h => by
    have h0 := h 0 (by simp) (by simp)
    simp only [List.getElem_cons_zero] at h0
    rw [List.flatten_cons, h0, flatG (f := f) (Cs := Cs) (xs := xs) (by simpa using hl) (fun i hi hi' => h (i + 1) (by simpa using hi) (by simpa using hi')), List.flatMap_cons]
theorem two_ofG {α : Type} : ∀ {l : List α}, l.length = 2 → ∃ a b, l = [a, b]
  | [a, b], _ => ⟨a, b, rfl⟩
theorem five_ofG {α : Type} : ∀ {l : List α}, l.length = 5 → ∃ a b c d e, l = [a, b, c, d, e]
  | [a, b, c, d, e], _ => ⟨a, b, c, d, e, rfl⟩
theorem four_ofG {α : Type} : ∀ {l : List α}, l.length = 4 → ∃ a b c d, l = [a, b, c, d]
  | [a, b, c, d], _ => ⟨a, b, c, d, rfl⟩
set_option maxRecDepth 20000 in
theorem rdb_xt (W : World) : Rdb Try.prog W 74 (fun cs (x : Int × Int) => cs = xcs x ∧ XW x) := fun H enc sp hd fu cs d pl h hw => by
  obtain ⟨hl, hf⟩ := rdb_fields Try.underlying74 h hw
  have hc : Try.prog.cellsOf 74 = 2 := by kernel_rfl
  have hci : Try.prog.cellsOf 3 = 1 := by kernel_rfl
  rw [hc] at hl
  obtain ⟨x, e0, w0⟩ := hf 0 _ rfl (rdb_int Try.underlying3)
  obtain ⟨y, e1, w1⟩ := hf 1 _ rfl (rdb_int Try.underlying3)
  obtain ⟨c0, c1, rfl⟩ := two_ofG hl
  simp [hci] at e0
  simp [hci] at e1
  subst e0 e1
  exact ⟨(x, y), rfl, ⟨i64_wf w0, i64_wf w1⟩⟩
theorem reach_n {n k m : Nat} (h : n * k ≤ reachBytes) (hm : 140737488355328 ≤ m * k := by decide) (hk : 0 < k := by decide) : n ≤ m := by
  have h1 : reachBytes ≤ 140737488355328 := by decide
  exact Nat.le_of_mul_le_mul_right (Nat.le_trans h (Nat.le_trans h1 hm)) hk
def PXts (A : SP) (cs : List Value) (es : List (Int × Int)) : Prop := ∃ a c, cs = [.slice a es.length c] ∧ es.length ≤ c ∧ es.length ≤ 8796093022208 ∧ Rs A a (xcl es) ∧ ∀ x ∈ es, XW x
theorem rdb_xts (W : World) : Rdb Try.prog W 53 (PXts (old W)) :=
  (rdb_slice (k := 2) (b := 16) Try.underlying53 (by kernel_rfl) (by kernel_rfl) (by decide) (rdb_xt W)).mono fun cs xs ⟨a, cap, Cs, e1, hc, hs, hl, hx, hr⟩ => by
    refine ⟨xs, ⟨a, cap, e1, hc, reach_n hs, ?_, fun x hx' => ?_⟩⟩
    · rw [show xcl xs = Cs.flatten from (flatG hl (fun i h h' => (hx i h h').2.1)).symm]; exact hr
    · obtain ⟨i, hi, rfl⟩ := List.mem_iff_getElem.1 hx'
      exact (hx i hi (by omega)).2.2
/-- One arm of a story. -/
structure Ar1 where
  af : Int
  a : Option Addr
  c : Nat
  kp : List Int
def Ar1.cells (x : Ar1) : List Value := [.int .i64 x.af, .slice x.a x.kp.length x.c]
set_option maxRecDepth 20000 in
theorem rdb_ar (W : World) : Rdb Try.prog W 78 (fun cs (x : Ar1) => cs = x.cells ∧ x.kp.length ≤ x.c ∧ x.kp.length ≤ 17592186043904 ∧ Rs (old W) x.a (ints x.kp) ∧ (-9223372036854775808 ≤ x.af ∧ x.af ≤ 9223372036854775807) ∧ ∀ k ∈ x.kp, -9223372036854775808 ≤ k ∧ k ≤ 9223372036854775807) := fun H enc sp hd fu cs d pl h hw => by
  obtain ⟨hl, hf⟩ := rdb_fields Try.underlying78 h hw
  have hc : Try.prog.cellsOf 78 = 2 := by kernel_rfl
  have hci : Try.prog.cellsOf 3 = 1 := by kernel_rfl
  have hck : Try.prog.cellsOf 22 = 1 := by kernel_rfl
  rw [hc] at hl
  obtain ⟨af, e0, w0⟩ := hf 0 _ rfl (rdb_int Try.underlying3)
  obtain ⟨kp, ka, kc, e1, g1, g2, r1, l1⟩ := hf 1 _ rfl (rdb_ints Try.underlying22 Try.underlying3 (by kernel_rfl) (by kernel_rfl))
  obtain ⟨c0, c1, rfl⟩ := two_ofG hl
  simp [hci] at e0
  simp [hck] at e1
  subst e0 e1
  exact ⟨⟨af, ka, kc, kp⟩, rfl, g1, g2, r1, i64_wf w0, l1⟩
theorem acs_mapG : ∀ (xs : List Ar1), acs (xs.map fun x => .slice x.a x.kp.length x.c) (xs.map fun x => (x.af, x.kp)) = xs.flatMap Ar1.cells
  | [] => rfl
  | x :: xs => by
    simp only [List.map_cons, List.flatMap_cons]
    show _ :: _ :: acs _ _ = _
    rw [acs_mapG xs]; rfl
def PArs (A : SP) (cs : List Value) (p : List Value × List (Int × List Int)) : Prop := ∃ a c, cs = [.slice a p.2.length c] ∧ p.2.length ≤ c ∧ p.2.length ≤ 4398046511104 ∧ RdA A a p.1 p.2 ∧ ∀ x ∈ p.2, (-9223372036854775808 ≤ x.1 ∧ x.1 ≤ 9223372036854775807) ∧ x.2.length ≤ 17592186043904 ∧ ∀ k ∈ x.2, -9223372036854775808 ≤ k ∧ k ≤ 9223372036854775807
theorem rdb_ars (W : World) : Rdb Try.prog W 47 (PArs (old W)) :=
  (rdb_slice (k := 2) (b := 32) Try.underlying47 (by kernel_rfl) (by kernel_rfl) (by decide) (rdb_ar W)).mono fun cs xs ⟨a, cap, Cs, e1, hc, hs, hl, hx, hr⟩ => by
    have e2 : Cs.flatten = xs.flatMap Ar1.cells := flatG hl fun i h h' => (hx i h h').2.1
    refine ⟨(xs.map fun x => .slice x.a x.kp.length x.c, xs.map fun x => (x.af, x.kp)), ⟨a, cap, by simpa using e1, by simpa using hc, by simpa using reach_n (m := 4398046511104) hs, ⟨?_, by simp, fun i hi => ?_⟩, fun x hx' => ?_⟩⟩
    · rw [acs_mapG, ← e2]; exact hr
    · have hi' : i < xs.length := by simpa using hi
      have := (hx i hi' (by omega)).2
      exact ⟨xs[i].a, xs[i].c, by simp [hi'], by simpa using this.2.1, by simpa using this.2.2.2.1⟩
    · obtain ⟨y, hy, rfl⟩ := List.mem_map.1 hx'
      obtain ⟨i, hi, rfl⟩ := List.mem_iff_getElem.1 hy
      have := (hx i hi (by omega)).2
      exact ⟨this.2.2.2.2.1, this.2.2.1, this.2.2.2.2.2⟩
/-- One change of a story. -/
structure Chg where
  q : Int
  p : Int
  a : Option Addr
  c : Nat
  b : List Nat
  fl : Bool
  fe : Bool
def Chg.cells (x : Chg) : List Value := [.int .i64 x.q, .int .i64 x.p, .slice x.a x.b.length x.c, .bool x.fl, .bool x.fe]
structure ChgW (A : SP) (x : Chg) : Prop where
  q : (-9223372036854775808 ≤ x.q ∧ x.q ≤ 9223372036854775807)
  p : (-9223372036854775808 ≤ x.p ∧ x.p ≤ 9223372036854775807)
  cap : x.b.length ≤ x.c
  len : x.b.length ≤ 140737488351232
  rs : Rs A x.a (bys x.b)
  by_ : ∀ y ∈ x.b, y < 256
theorem ChgW.left {A X : SP} {x : Chg} (h : ChgW A x) : ChgW (A * X) x := ⟨h.q, h.p, h.cap, h.len, h.rs.left, h.by_⟩
set_option maxRecDepth 20000 in
theorem rdb_ch (W : World) : Rdb Try.prog W 118 (fun cs (x : Chg) => cs = x.cells ∧ ChgW (old W) x) := fun H enc sp hd fu cs d pl h hw => by
  obtain ⟨hl, hf⟩ := rdb_fields Try.underlying118 h hw
  have hc : Try.prog.cellsOf 118 = 5 := by kernel_rfl
  have hci : Try.prog.cellsOf 3 = 1 := by kernel_rfl
  have hcb : Try.prog.cellsOf 60 = 1 := by kernel_rfl
  have hcl : Try.prog.cellsOf 4 = 1 := by kernel_rfl
  rw [hc] at hl
  obtain ⟨q, e0, w0⟩ := hf 0 _ rfl (rdb_int Try.underlying3)
  obtain ⟨p, e1, w1⟩ := hf 1 _ rfl (rdb_int Try.underlying3)
  obtain ⟨b, a, c, e2, g1, g2, g3, g4⟩ := hf 2 _ rfl (rdb_bys Try.underlying60 Try.underlying5 (by kernel_rfl) (by kernel_rfl))
  obtain ⟨fl, e3⟩ := hf 3 _ rfl (rdb_bool Try.underlying4)
  obtain ⟨fe, e4⟩ := hf 4 _ rfl (rdb_bool Try.underlying4)
  obtain ⟨c0, c1, c2, c3, c4, rfl⟩ := five_ofG hl
  simp [hci] at e0
  simp [hci] at e1
  simp [hcb] at e2
  simp [PBool, hcl] at e3 e4
  subst e0 e1 e2 e3 e4
  exact ⟨⟨q, p, a, c, b, fl, fe⟩, rfl, i64_wf w0, i64_wf w1, g1, g2, g3, g4⟩
def chl (l : List Chg) : List Value := l.flatMap Chg.cells
def PChs (A : SP) (cs : List Value) (l : List Chg) : Prop := ∃ a c, cs = [.slice a l.length c] ∧ l.length ≤ c ∧ l.length ≤ 2932031007403 ∧ Rs A a (chl l) ∧ ∀ x ∈ l, ChgW A x
theorem rdb_chs (W : World) : Rdb Try.prog W 54 (PChs (old W)) :=
  (rdb_slice (k := 5) (b := 48) Try.underlying54 (by kernel_rfl) (by kernel_rfl) (by decide) (rdb_ch W)).mono fun cs xs ⟨a, cap, Cs, e1, hc, hs, hl, hx, hr⟩ => by
    refine ⟨xs, ⟨a, cap, e1, hc, reach_n hs, ?_, fun x hx' => ?_⟩⟩
    · rw [show chl xs = Cs.flatten from (flatG hl (fun i h h' => (hx i h h').2.1)).symm]; exact hr
    · obtain ⟨i, hi, rfl⟩ := List.mem_iff_getElem.1 hx'
      exact (hx i hi (by omega)).2.2
/-- A story. -/
structure Stx where
  es : List (Int × Int)
  ch : List Chg
  kvs : List Value
  ars : List (Int × List Int)
  lg : Bool
def PSto (A : SP) (cs : List Value) (t : Stx) : Prop := ∃ v1 v2 v3, cs = [v1, v2, v3, .bool t.lg] ∧ PXts A [v1] t.es ∧ PChs A [v2] t.ch ∧ PArs A [v3] (t.kvs, t.ars)
set_option maxRecDepth 20000 in
theorem rdb_sto (W : World) : Rdb Try.prog W 56 (PSto (old W)) := fun H enc sp hd fu cs d pl h hw => by
  obtain ⟨hl, hf⟩ := rdb_fields Try.underlying56 h hw
  have hc : Try.prog.cellsOf 56 = 4 := by kernel_rfl
  have hc0 : Try.prog.cellsOf 53 = 1 := by kernel_rfl
  have hc1 : Try.prog.cellsOf 54 = 1 := by kernel_rfl
  have hc2 : Try.prog.cellsOf 47 = 1 := by kernel_rfl
  have hc3 : Try.prog.cellsOf 4 = 1 := by kernel_rfl
  rw [hc] at hl
  obtain ⟨es, e0⟩ := hf 0 _ rfl (rdb_xts W)
  obtain ⟨ch, e1⟩ := hf 1 _ rfl (rdb_chs W)
  obtain ⟨ar, e2⟩ := hf 2 _ rfl (rdb_ars W)
  obtain ⟨lg, e3⟩ := hf 3 _ rfl (rdb_bool Try.underlying4)
  obtain ⟨c0, c1, c2, c3, rfl⟩ := four_ofG hl
  simp [hc0] at e0
  simp [hc1] at e1
  simp [hc2] at e2
  simp [PBool, hc3] at e3
  subst e3
  exact ⟨⟨es, ch, ar.1, ar.2, lg⟩, c0, c1, c2, rfl, e0, e1, e2⟩
end Go.Vl

set_option linter.unusedVariables false
set_option linter.unusedSimpArgs false
namespace Go.Vl
open Go Go.Proofs
/-! ### One operation of a story -/
/-! ### The state behind a Write, changes, and losses -/
/-- What a story's extents are, brought to where they may be. -/
def XIn (x : Int × Int) : Prop := 1 ≤ x.2 ∧ x.2 ≤ 40 ∧ ((64 ≤ x.1 ∧ x.1 + x.2 ≤ 128) ∨ (512 ≤ x.1 ∧ x.1 + x.2 ≤ 1024))
structure CSt (X : List (Int × Int)) (I : List Nat) (r : Nat) (s : DevS) : Prop where
  ast : AS (oldsL mdI X) I s
  len : s.ls.length = 16
  room : Room r s
/-- The log is empty again. -/
structure Clr (I : List Nat) (s : DevS) : Prop where
  wf : WfD s
  cln : Cln s
  img : imgS s = spl I 128 (le 8 0)
  len : s.ls.length = 16
structure Trn (X : List (Int × Int)) (I : List Nat) (s : DevS) : Prop where
  room : Room 385 s
  ast : (X ≠ [] ∧ AS (oldsL mdI X) I s ∧ s.ls.length = 16) ∨ Clr I s
end Go.Vl

set_option linter.unusedVariables false
set_option linter.unusedSimpArgs false
namespace Go.Vl
open Go Go.Proofs
def Ar1.pr (x : Ar1) : Int × List Int := (x.af, x.kp)
def ownR (x : Ar1) : SP := Sl 1 (.slice x.a x.kp.length x.c) x.kp.length (ints x.kp)
/-- An arm, as it may be. -/
def brA (x : Int × List Int) : Int × List Int := (1 + x.1 % 60, x.2.map fun k => k % 1000)
structure ArP (xs : List Ar1) (ars : List (Int × List Int)) : Prop where
  mp : xs.map Ar1.pr = ars.map brA
  cp : ∀ x ∈ xs, x.kp.length ≤ x.c
def ArB (a : Option Addr) (c n : Nat) (xs : List Ar1) : SP := Sl 2 (.slice a n c) n (xs.flatMap Ar1.cells) * Bs ownR xs
attribute [local irreducible] crk crL crc Sl pt ro Dev imgS recS readS recsF rdW rdO rkT Parts rvl recordsS mdI mdK rise mds writeS rollS clearS oldsL kcl xcl lensX lst brL brX fiveX kpR acs chl
end Go.Vl

set_option linter.unusedVariables false
set_option linter.unusedSimpArgs false
namespace Go.Vl
open Go Go.Proofs
/-- A change, read: of any length. -/
structure ChgV (A : SP) (x : Chg) : Prop where
  q : -9223372036854775808 ≤ x.q ∧ x.q ≤ 9223372036854775807
  p : -9223372036854775808 ≤ x.p ∧ x.p ≤ 9223372036854775807
  cap : x.b.length ≤ x.c
  rs : Rs A x.a (bys x.b)
  by_ : ∀ y ∈ x.b, y < 256
theorem ChgV.left {A X : SP} {x : Chg} (h : ChgV A x) : ChgV (A * X) x := ⟨h.q, h.p, h.cap, h.rs.left, h.by_⟩
attribute [local irreducible] crk crL crc Sl pt ro Dev imgS recS readS recsF rdW rdO rkT Parts rvl recordsS mdI mdK rise mds writeS rollS clearS oldsL kcl xcl lensX lst brL brX fiveX kpR acs chl phi
end Go.Vl

set_option linter.unusedVariables false
set_option linter.unusedSimpArgs false
namespace Go.Vl
open Go Go.Proofs
def ArOk (ars : List (Int × List Int)) : Prop := ∀ x ∈ ars, (-9223372036854775808 ≤ x.1 ∧ x.1 ≤ 9223372036854775807) ∧ x.2.length ≤ 1099511627776 ∧ ∀ k ∈ x.2, -9223372036854775808 ≤ k ∧ k ≤ 9223372036854775807
theorem xin_br {es : List (Int × Int)} {n : Nat} : ∀ x ∈ brL es n, XIn x := fun _ h => brL_mem h
attribute [local irreducible] crk crL crc Sl pt ro Dev imgS recS readS recsF rdW rdO rkT Parts rvl recordsS mdI mdK rise mds writeS rollS clearS oldsL kcl xcl lensX lst brL brX fiveX kpR acs chl phi
end Go.Vl

set_option linter.unusedVariables false
set_option linter.unusedSimpArgs false
namespace Go.Vl
open Go Go.Proofs
def PXtU (A : SP) (cs : List Value) (es : List (Int × Int)) : Prop := ∃ a c, cs = [.slice a es.length c] ∧ es.length ≤ c ∧ Rs A a (xcl es) ∧ ∀ x ∈ es, XW x
def PArU (A : SP) (cs : List Value) (p : List Value × List (Int × List Int)) : Prop := ∃ a c, cs = [.slice a p.2.length c] ∧ p.2.length ≤ c ∧ RdA A a p.1 p.2 ∧ ∀ x ∈ p.2, (-9223372036854775808 ≤ x.1 ∧ x.1 ≤ 9223372036854775807) ∧ ∀ k ∈ x.2, -9223372036854775808 ≤ k ∧ k ≤ 9223372036854775807
def PChU (A : SP) (cs : List Value) (l : List Chg) : Prop := ∃ a c, cs = [.slice a l.length c] ∧ l.length ≤ c ∧ Rs A a (chl l) ∧ ∀ x ∈ l, ChgV A x
def PStU (A : SP) (cs : List Value) (t : Stx) : Prop := ∃ v1 v2 v3, cs = [v1, v2, v3, .bool t.lg] ∧ PXtU A [v1] t.es ∧ PChU A [v2] t.ch ∧ PArU A [v3] (t.kvs, t.ars)
def Stx.sz (t : Stx) : Nat := t.es.length + (t.ch.map fun x => x.b.length + 1).sum + (t.ars.map fun x => x.2.length + 1).sum
end Go.Vl

set_option linter.unusedVariables false
set_option linter.unusedSimpArgs false
namespace Go.Vl
open Go Go.Proofs
/-- A slice v of n elements of k cells, and what it was grown to, v', of m: within one block, or apart. -/
def GrK (k : Nat) (v : Value) (n : Nat) (xs : List Value) (v' : Value) (m : Nat) (ys : List Value) : SP := fun h =>
  (∃ a c, v = .slice a n c ∧ v' = .slice a m c ∧ n ≤ m ∧ xs = ys.take (n * k) ∧ Sl k v' m ys h) ∨ (Sl k v n xs * Sl k v' m ys) h
theorem grk_iff {k : Nat} {v v' : Value} {n m : Nat} {xs ys : List Value} {R : SP} {g : Gh} {w : World} : sat g w (R * GrK k v n xs v' m ys) ↔
    (∃ a c, v = .slice a n c ∧ v' = .slice a m c ∧ n ≤ m ∧ xs = ys.take (n * k) ∧ sat g w (R * Sl k v' m ys)) ∨ sat g w (R * Sl k v n xs * Sl k v' m ys) := by
  constructor
  · intro hs
    obtain ⟨_, ⟨x, y, hd, rfl, ha, hb⟩, hx⟩ := hs.hp
    rcases hb with ⟨a, c, e1, e2, e3, e4, e5⟩ | hb
    · exact .inl ⟨a, c, e1, e2, e3, e4, hs.os, hs.tape, hs.out, _, ⟨x, y, hd, rfl, ha, e5⟩, hx⟩
    · exact .inr (by rw [star_assoc]; exact ⟨hs.os, hs.tape, hs.out, _, ⟨x, y, hd, rfl, ha, hb⟩, hx⟩)
  · rintro (⟨a, c, e1, e2, e3, e4, hs⟩ | hs)
    · exact hs.mono fun h ⟨x, y, hd, e, ha, hb⟩ => ⟨x, y, hd, e, ha, .inl ⟨a, c, e1, e2, e3, e4, hb⟩⟩
    · rw [star_assoc] at hs
      exact hs.mono fun h ⟨x, y, hd, e, ha, hb⟩ => ⟨x, y, hd, e, ha, .inr hb⟩
theorem grk_same {k : Nat} {v : Value} {n : Nat} {xs : List Value} {R : SP} {g : Gh} {w : World} (hs : sat g w (R * Sl k v n xs)) : sat g w (R * GrK k v n xs v n xs) := by
  obtain ⟨a, c, e, _, hl, _⟩ := sl_have hs
  exact grk_iff.2 (.inl ⟨a, c, e, e, Nat.le_refl _, by rw [List.take_of_length_le (by omega)], hs⟩)
/-- Both are read. -/
theorem grk_key {k : Nat} {a a' : Option Addr} {n c m c' : Nat} {xs ys : List Value} {R : SP} {g : Gh} {w : World} (hs : sat g w (R * GrK k (.slice a n c) n xs (.slice a' m c') m ys)) :
    (∀ i (u : Value), xs[i]? = some u → ∃ b o, a = some ⟨b, o, none⟩ ∧ w.cell? ⟨b, o + i, none⟩ = some u) ∧ (∀ i (u : Value), ys[i]? = some u → ∃ b o, a' = some ⟨b, o, none⟩ ∧ w.cell? ⟨b, o + i, none⟩ = some u) := by
  rcases grk_iff.1 hs with ⟨a1, c1, e1, e2, e3, e4, hs1⟩ | hs1
  · simp only [Value.slice.injEq, true_and] at e1 e2
    obtain ⟨rfl, rfl⟩ := e1
    obtain ⟨rfl, rfl⟩ := e2
    have hr : Rs (R * Sl k (.slice a' m c') m ys) a' ys := rs_sl
    refine ⟨fun i u hu => ?_, hr g w hs1⟩
    rw [e4] at hu
    exact hr g w hs1 i u (take_some hu)
  · have h1 : Rs (R * Sl k (.slice a n c) n xs * Sl k (.slice a' m c') m ys) a xs := rs_sl.left
    have h2 : Rs (R * Sl k (.slice a n c) n xs * Sl k (.slice a' m c') m ys) a' ys := rs_sl
    exact ⟨h1 g w hs1, h2 g w hs1⟩
theorem rs_grk1 {k : Nat} {a a' : Option Addr} {n c m c' : Nat} {xs ys : List Value} {R : SP} : Rs (R * GrK k (.slice a n c) n xs (.slice a' m c') m ys) a xs := fun _ _ hs => (grk_key hs).1
theorem rs_grk2 {k : Nat} {a a' : Option Addr} {n c m c' : Nat} {xs ys : List Value} {R : SP} : Rs (R * GrK k (.slice a n c) n xs (.slice a' m c') m ys) a' ys := fun _ _ hs => (grk_key hs).2
theorem grk_have {k : Nat} {v v' : Value} {n m : Nat} {xs ys : List Value} {R : SP} {g : Gh} {w : World} (hs : sat g w (R * GrK k v n xs v' m ys)) : ∃ a' c', v' = .slice a' m c' ∧ m ≤ c' := by
  rcases grk_iff.1 hs with ⟨a, c, e1, e2, e3, e4, hs⟩ | hs
  · obtain ⟨a', c', e', h1, _⟩ := sl_have hs; exact ⟨a', c', e', h1⟩
  · obtain ⟨a', c', e', h1, _⟩ := sl_have hs; exact ⟨a', c', e', h1⟩
theorem o_appendGK {P : Program} {n : Nat} {ρ : Env} {A : SP} {dst : Option Tmp} {ty : TypeId} {pos : String} {after : Array Edge} {gd : Option (Nat × Bool)} {t t' e e' : TypeId} {x y : Operand} {v v' z : Value} {k q p m bytes c : Nat} {a : Option Addr} {os xs ys : List Value} {R : SP}
    (hu : P.underlying t = some (.slice e)) (hu' : P.underlying t' = some (.slice e')) (hk : szE P e = some k) (hb : bytesE P e = some bytes) (hz : zeroE P e = some z) (hzk : z.cells.size = k) (hk0 : 0 < k) (hb0 : 0 < bytes)
    (hx : ev n ρ x = v') (hy : ev n ρ y = .slice a m c) (hA : A = R * GrK k v p os v' q xs) (hr : Rs A a ys) (hm : ys.length = m * k) (ho : ∀ u ∈ ys, oneC u = true) (hlim : (q + m) * bytes ≤ 140737488355328) :
    OpX P n ρ A ⟨dst, .call { callee := .builtin .append, args := #[x, y], argTypes := #[t, t'] }, ty, pos, after, gd⟩ (fun v'' B => B = R * GrK k v p os v'' (q + m) (xs ++ ys)) := fun g w hs => by
  have hs0 := hs
  rw [hA] at hs0
  rcases grk_iff.1 hs0 with ⟨b0, c0, e1, e2, e3, e4, hs1⟩ | hs1
  · obtain ⟨_, _, _, _, hlx, _⟩ := sl_have hs1
    have hpq : p * k ≤ q * k := Nat.mul_le_mul_right _ e3
    have hr1 : Rs (R * Sl k v' q xs) a ys := fun g w h => hr g w (by rw [hA]; exact grk_iff.2 (.inl ⟨b0, c0, e1, e2, e3, e4, h⟩))
    obtain ⟨v2, w', B, h1, h2, ⟨a', c', ea, eb, _, rfl⟩ | rfl⟩ := o_appendG (dst := dst) (ty := ty) (pos := pos) (after := after) (gd := gd) (ρ := ρ) hu hu' hk hb hz hzk hk0 hb0 hx hy rfl (hr1.rd hs1) hm ho hlim g w hs1
    · refine ⟨v2, w', _, h1, ?_, rfl⟩
      rw [e2] at ea
      simp only [Value.slice.injEq, true_and] at ea
      obtain ⟨rfl, rfl⟩ := ea
      exact grk_iff.2 (.inl ⟨_, _, e1, eb, by omega, by rw [e4, List.take_append_of_le_length (by omega)], h2⟩)
    · refine ⟨v2, w', _, h1, grk_iff.2 (.inr ?_), rfl⟩
      obtain ⟨hl2, h3 | h3⟩ := sl_iff.1 (by rw [star_swap] at h2; exact h2)
      · obtain ⟨f1, f2, f3⟩ := h3
        subst f2
        have hp : p = 0 := by omega
        subst hp
        rw [star_swap]
        refine sl_iff.2 ⟨by rw [e4]; simp, .inl ⟨?_, rfl, f3⟩⟩
        rw [e2] at f1; rw [e1]; simp only [Value.slice.injEq] at f1 ⊢; exact ⟨f1.1, trivial, f1.2.2⟩
      · obtain ⟨b, off, cap, l, E, f1, f2, f3, f4, f5⟩ := h3
        rw [star_swap]
        rw [e2] at f1
        simp only [Value.slice.injEq, true_and] at f1
        obtain ⟨rfl, rfl⟩ := f1
        refine sl_iff.2 ⟨by rw [e4, List.length_take]; omega, .inr ⟨b, off, c0, l, E, e1, by omega, f3, ?_, f5⟩⟩
        rw [e4, ← f4, List.take_take]; congr 1; omega
  · have hr1 : Rs (R * Sl k v p os * Sl k v' q xs) a ys := fun g w h => hr g w (by rw [hA]; exact grk_iff.2 (.inr h))
    obtain ⟨v2, w', B, h1, h2, rfl⟩ := o_append (dst := dst) (ty := ty) (pos := pos) (after := after) (gd := gd) (ρ := ρ) hu hu' hk hb hz hzk hk0 hb0 hx hy rfl (hr1.rd hs1) hm ho hlim g w hs1
    exact ⟨v2, w', _, h1, grk_iff.2 (.inr h2), rfl⟩
theorem o_apGK {P : Program} {n : Nat} {ρ : Env} {A : SP} {dst : Option Tmp} {ty : TypeId} {pos : String} {after : Array Edge} {gd : Option (Nat × Bool)} {t t' e e' : TypeId} {x y : Operand} {v z : Value} {k p m q bytes c c0 : Nat} {a a2 : Option Addr} {os xs ys zs : List Value} {R : SP} {C : SP → SP}
    (hu : P.underlying t = some (.slice e)) (hu' : P.underlying t' = some (.slice e')) (hk : szE P e = some k) (hb : bytesE P e = some bytes) (hz : zeroE P e = some z) (hzk : z.cells.size = k) (hk0 : 0 < k) (hb0 : 0 < bytes)
    (hx : ev n ρ x = .slice a q c0) (hy : ev n ρ y = .slice a2 m c) (hf : Ct A (GrK k v p os (.slice a q c0) q xs) R C) (hr : Rs A a2 ys) (hm : ys.length = m * k) (ho : ys.all oneC = true) (hlim : (q + m) * bytes ≤ 140737488355328) (he : xs ++ ys = zs) :
    OpX P n ρ A ⟨dst, .call { callee := .builtin .append, args := #[x, y], argTypes := #[t, t'] }, ty, pos, after, gd⟩ (fun v' B => ∃ a' c', v' = .slice a' (q + m) c' ∧ q + m ≤ c' ∧ B = C (GrK k v p os (.slice a' (q + m) c') (q + m) zs)) := fun g w hs => by
  subst he
  obtain ⟨rfl, hC⟩ := hf
  obtain ⟨v', w', B, hr, hB, rfl⟩ := o_appendGK (dst := dst) (ty := ty) (pos := pos) (after := after) (gd := gd) hu hu' hk hb hz hzk hk0 hb0 hx hy rfl hr hm (fun u hu => List.all_eq_true.1 ho u hu) hlim g w hs
  obtain ⟨a', c', rfl, g2⟩ := grk_have hB
  exact ⟨_, w', _, hr, hB, a', c', rfl, g2, (hC _).symm⟩
/-! ### Two lists in turns -/
def ilv {α : Type} : List α → List α → List α
  | x :: xs, y :: ys => x :: y :: ilv xs ys
  | _, _ => []
theorem ilv_len {α : Type} : ∀ {xs ys : List α}, xs.length = ys.length → (ilv xs ys).length = 2 * xs.length
  | [], [], _ => rfl
  | x :: xs, y :: ys, h => by
    show (ilv xs ys).length + 1 + 1 = 2 * (xs.length + 1)
    rw [ilv_len (by simpa using h)]; omega
theorem ilv_snoc {α : Type} : ∀ {xs ys : List α} {x y : α}, xs.length = ys.length → ilv (xs ++ [x]) (ys ++ [y]) = ilv xs ys ++ [x, y]
  | [], [], _, _, _ => rfl
  | a :: xs, b :: ys, x, y, h => by
    show a :: b :: ilv (xs ++ [x]) (ys ++ [y]) = a :: b :: (ilv xs ys ++ [x, y])
    rw [ilv_snoc (by simpa using h)]
theorem ilv_mem {α : Type} {z : α} : ∀ {xs ys : List α}, z ∈ ilv xs ys → z ∈ xs ∨ z ∈ ys
  | x :: xs, y :: ys, h => by
    rcases List.mem_cons.1 h with rfl | h
    · exact .inl (by simp)
    · rcases List.mem_cons.1 h with rfl | h
      · exact .inr (by simp)
      · rcases ilv_mem h with h | h
        · exact .inl (by simp [h])
        · exact .inr (by simp [h])
  | [], _, h => by cases h
  | _ :: _, [], h => by cases h
theorem parts_ilv : ∀ {vs us : List Value} {ls ms : List (List Nat)}, vs.length = ls.length → us.length = ms.length → vs.length = us.length → Parts (ilv vs us) (ilv ls ms) = Parts vs ls * Parts us ms
  | [], [], [], [], _, _, _ => by show Parts [] [] = Parts [] [] * Parts [] []; rw [show Parts [] [] = emp by unfold Parts; rfl, star_emp]
  | v :: vs, u :: us, l :: ls, m :: ms, h1, h2, h3 => by
    have ih := parts_ilv (vs := vs) (us := us) (ls := ls) (ms := ms) (by simpa using h1) (by simpa using h2) (by simpa using h3)
    have e : ∀ (v : Value) (vs : List Value) (l : List Nat) (ls : List (List Nat)), Parts (v :: vs) (l :: ls) = Parts vs ls * Sl 1 v l.length (bys l) := fun _ _ _ _ => by rw [Parts]
    show Parts (v :: u :: ilv vs us) (l :: m :: ilv ls ms) = _
    rw [e, e, ih, e, e]
    ac_rfl
end Go.Vl

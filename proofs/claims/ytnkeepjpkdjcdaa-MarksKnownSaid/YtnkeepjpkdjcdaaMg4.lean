/- What the row rests on, part 4: a calculus of assertions, walks of functions over it, and plain laws. Conditions: none. -/
import Derived.Deep.QuietTactic
import Derived.BigQuiet
import Derived.WalkKit
import Derived.Test.YtnkeepjpkdjcdaaProg
import Derived.OrdersHeld
import Derived.Laws.BytesArg
import Derived.Lib.Builder
import Derived.Lib.UnsafeStr
import Derived.RangeFuncRecord
import Derived.TacticsIn
import Derived.Deep.Slices
import Derived.OpenShut
import Derived.ChangeArms
import Derived.SizedLaws
import Derived.ChangeSame
import Derived.Test.YtnkeepjpkdjcdaaRows
import Derived.Lib.ConvBytes
import Derived.Laws.AppendOwn
import Derived.Sort.QuietThIn
import Derived.Test.YtnkeepjpkdjcdaaMg3
set_option linter.unusedVariables false
set_option linter.unusedSimpArgs false
namespace Go.Vl
open Go Go.Proofs
attribute [local irreducible] Sl pt ro SlB
namespace Rg
theorem chunk1_f {b c l N q1 q2 : Nat} {J : Nat → SP → Prop} {X : SP → Prop} {S0 : SP} (h1 : 16 * N ≤ c) (h2 : N ≤ 1099511627776) (h0 : J 0 S0) (hY : ∀ F i S, i < N → J i S → Yd Try.prog l #[.slice (some ⟨b, 16 * i, none⟩) 16 16] (F * S) (fun v B => ∃ (b : Bool) (S' : SP), v = .bool b ∧ (b = true → J (i + 1) S') ∧ (b = false → X S') ∧ B = F * S')) :
    Fn Try.prog 68 #[.func (.yield l) #[] #[], .pointer (some ⟨q1, 0, none⟩), .pointer (some ⟨q2, 0, none⟩)] (S0 * pt q1 (cl [.slice (some ⟨b, 0, none⟩) (16 * N) c] 62) * pt q2 (cl [.int .i64 16] 3)) (fun r B => r = .tuple #[] ∧ ((∃ S, J N S ∧ B = S * pt q1 (cl [.slice (some ⟨b, 0, none⟩) (16 * N) c] 62) * pt q2 (cl [.int .i64 16] 3)) ∨ ∃ S, X S ∧ B = S * pt q1 (cl [.slice (some ⟨b, 0, none⟩) (16 * N) c] 62) * pt q2 (cl [.int .i64 16] 3))) := by
  refine fn_enterW (args := [.func (.yield l) #[] #[], .pointer (some ⟨q1, 0, none⟩), .pointer (some ⟨q2, 0, none⟩)]) Try.func68 rfl Try.ntmps68 (by simp) ?_; refine tc_seq ?_; refine tc_reg ?_; refine tla ?_; refine tl_nil ?_; refine q_then_n ?_; refine tc_block ?_; refine tc_loop (fun kk ρ BB => ∃ (k : Nat) (S : SP), (k ≤ N) ∧ (J k S) ∧ kk = N - k ∧ ρ 4 = .int .i64 ((16 * k : Nat) : Int) ∧ ρ 31 = undef ∧ ρ 0 = .func (.yield l) #[] #[] ∧ ρ 1 = .pointer (some ⟨q1, 0, none⟩) ∧ ρ 2 = .pointer (some ⟨q2, 0, none⟩) ∧ BB = S * pt q1 (cl [.slice (some ⟨b, 0, none⟩) (16 * N) c] 62) * pt q2 (cl [.int .i64 16] 3)) (m := N - (0)) ?_ ?_
  · exact ⟨0, S0, by omega, h0, rfl, rfl, rfl, rfl, rfl, rfl, rfl⟩
  · intro k ρ B hI
    obtain ⟨k, S, hp0, hp1, hkk1, hE4, hE31, hE0, hE1, hE2, rfl⟩ := hI
    refine tc_env (d := 4) hE4 ?_; refine tc_env (d := 31) hE31 ?_; refine tc_env (d := 0) hE0 ?_; refine tc_env (d := 1) hE1 ?_; refine tc_env (d := 2) hE2 ?_
    clear hE4 hE31 hE0 hE1 hE2
    refine tc_seq ?_; refine tc_seq ?_; refine tc_reg ?_; refine tlm ?_; refine tl_v rfl (by first | exact o_load p62 rfl (by repeat (first | with_reducible exact has_here | with_reducible exact has_pt | apply has_left)) rfl | exact o_loadC p62 rfl (by assumption)) ?_; refine tl_v rfl (o_len Try.underlying62 rfl) ?_; refine tl_v rfl (o_lss rfl rfl) ?_; refine tl_nil ?_; refine q_then_n ?_; refine tc_cond rfl (fun h => ?_) (fun h => ?_)
    · have hk : k < N := by first | omega | (simp at h; omega)
      refine tc_skip ?_; refine q_then_n ?_; refine tc_seq ?_; refine tc_block ?_; refine tc_seq ?_; refine tc_regq mo (by kernel_rfl) ?_; refine ql_v rfl (by first | exact o_load p3 rfl (by repeat (first | with_reducible exact has_here | with_reducible exact has_pt | apply has_left)) rfl | exact o_loadC p3 rfl (by assumption)) ?_; refine ql_v rfl (by first | exact o_load p62 rfl (by repeat (first | with_reducible exact has_here | with_reducible exact has_pt | apply has_left)) rfl | exact o_loadC p62 rfl (by assumption)) ?_; refine ql_v rfl (o_move (by conv => lhs; whnf)) ?_; refine ql_v rfl (o_slice (l := 16 * k) (h := 16 * N) Try.underlying62 sz5 rfl (bnd_nat rfl) bnd_none (by omega) (by omega)) ?_; refine ql_v rfl (o_len Try.underlying62 rfl) ?_; refine ql_v rfl (o_min rfl rfl) ?_; refine ql_env (d := 18) (v := .int .i64 ((16 : Nat) : Int)) (by show Value.int .i64 _ = _; congr 1; omega) ?_; refine ql_v rfl (o_assign (by conv => lhs; whnf)) ?_; refine ql_nil ?_; refine q_then_n ?_; refine tc_seq ?_; refine tc_reg ?_; refine tlm ?_; refine tl_v rfl (by first | exact o_load p62 rfl (by repeat (first | with_reducible exact has_here | with_reducible exact has_pt | apply has_left)) rfl | exact o_loadC p62 rfl (by assumption)) ?_; refine tlm ?_; refine tlm ?_; refine tlm ?_; refine tl_v rfl (by first | exact o_addI rfl rfl (by omega) | exact o_add rfl rfl) ?_; refine tl_env (d := 24) (v := .int .i64 ((16 * k + 16 : Nat) : Int)) (by first | rfl | (show Value.int .i64 _ = _; congr 1)) ?_
      refine tlm ?_; refine tlm ?_; refine tl_v rfl (by first | exact o_addI rfl rfl (by omega) | exact o_add rfl rfl) ?_; refine tl_env (d := 27) (v := .int .i64 ((16 * k + 16 : Nat) : Int)) (by first | rfl | (show Value.int .i64 _ = _; congr 1)) ?_; refine tl_v rfl (o_slice3 (l := 16 * k) (h := 16 * k + 16) (m := 16 * k + 16) Try.underlying62 sz5 rfl rfl rfl rfl (by omega) (by omega) (by omega)) ?_; refine tl_env (d := 28) (v := .slice (some ⟨b, 16 * k, none⟩) 16 16) (by show Value.slice (cutAddr _ _ (16 * k) 1) (16 * k + 16 - 16 * k) (16 * k + 16 - 16 * k) = _; rw [cut_lt (by omega), show 16 * k + 16 - 16 * k = 16 by omega]; congr 3; omega) ?_; refine tl_y rfl rfl rfl (yd_b (F := pt q1 (cl [.slice (some ⟨b, 0, none⟩) (16 * N) c] 62) * pt q2 (cl [.int .i64 16] 3)) (G := fun S' => S' * pt q1 (cl [.slice (some ⟨b, 0, none⟩) (16 * N) c] 62) * pt q2 (cl [.int .i64 16] 3)) (hY _ k S (by omega) hp1) (by ac_rfl) (fun S' => by ac_rfl)) ?_; rintro _ _ ⟨b29, S2, rfl, hT, hF, rfl⟩; refine tl_v rfl (o_not rfl) ?_; refine tl_nil ?_; refine q_then_n ?_; refine tc_cond rfl (fun h => ?_) (fun h => ?_)
      · have hb : b29 = false := by simpa using h
        subst hb
        refine tc_ret ?_; refine q_block_r (q_then_r (q_then_r (q_block_r ?_))); exact ⟨[], _, rfl, fun _ _ h => mk0 h, .tuple #[], S2 * pt q1 (cl [.slice (some ⟨b, 0, none⟩) (16 * N) c] 62) * pt q2 (cl [.int .i64 16] 3), res0 rfl, fun _ _ h => h, rfl, .inr ⟨S2, hF rfl, rfl⟩⟩
      · have hb : b29 = true := by simpa using h
        subst hb
        refine tc_skip ?_; refine q_block_n (q_then_n ?_); refine tc_reg ?_; refine tlm ?_; refine tl_v rfl (by first | exact o_load p3 rfl (by repeat (first | with_reducible exact has_here | with_reducible exact has_pt | apply has_left)) rfl | exact o_loadC p3 rfl (by assumption)) ?_; refine tl_v rfl (by first | exact o_addI rfl rfl (by omega) | exact o_add rfl rfl) ?_; refine tl_env (d := 12) (v := .int .i64 ((16 * (k + 1) : Nat) : Int)) (by first | rfl | (show Value.int .i64 _ = _; congr 1)) ?_; refine tla ?_; refine tl_nil ?_; refine q_then_n ?_; exact ⟨_, by omega, k + 1, _, by omega, hT rfl, rfl, rfl, rfl, rfl, rfl, rfl, rfl⟩
    · have hk : ¬ k < N := by first | omega | (simp at h; omega)
      refine tc_exit ?_; refine q_then_e (q_then_e (q_block_x ?_))
      obtain rfl : N = k := by omega
      exact ⟨[], _, rfl, fun _ _ h => mk0 h, .tuple #[], S * pt q1 (cl [.slice (some ⟨b, 0, none⟩) (16 * N) c] 62) * pt q2 (cl [.int .i64 16] 3), res0 rfl, fun _ _ h => h, rfl, .inl ⟨S, hp1, rfl⟩⟩
end Rg
theorem starM2 (S a b : SP) : S * (a * b) = S * a * b := (star_assoc _ _ _).symm
theorem chunk_it {b c N q1 q2 : Nat} (h1 : 16 * N ≤ c) (h2 : N ≤ 1099511627776) :
    Rg.It Try.prog 68 [] [.pointer (some ⟨q1, 0, none⟩), .pointer (some ⟨q2, 0, none⟩)] (pt q1 (cl [.slice (some ⟨b, 0, none⟩) (16 * N) c] 62) * pt q2 (cl [.int .i64 16] 3)) N (fun i => [.slice (some ⟨b, 16 * i, none⟩) 16 16]) := fun l J X S0 h0 hY => by
  have hk : ∀ S : SP, S * (pt q1 (cl [.slice (some ⟨b, 0, none⟩) (16 * N) c] 62) * pt q2 (cl [.int .i64 16] 3)) = S * pt q1 (cl [.slice (some ⟨b, 0, none⟩) (16 * N) c] 62) * pt q2 (cl [.int .i64 16] 3) := fun S => starM2 _ _ _
  rw [hk S0]
  refine (Rg.chunk1_f (J := J) (X := X) h1 h2 h0 hY).mono ?_; rintro v B ⟨rfl, ⟨S, hS, rfl⟩ | ⟨S, hS, rfl⟩⟩
  · exact ⟨rfl, .inl ⟨S, hS, (hk S).symm⟩⟩
  · exact ⟨rfl, .inr ⟨S, hS, (hk S).symm⟩⟩
theorem chunk_c {A : SP} {b c N : Nat} :
    Fn Try.prog 51 #[.slice (some ⟨b, 0, none⟩) (16 * N) c, .int .i64 16] (A) (fun r B => ∃ q1 q2, r = .func (.func 68) #[] #[.pointer (some ⟨q1, 0, none⟩), .pointer (some ⟨q2, 0, none⟩)] ∧ B = A * (pt q1 (cl [.slice (some ⟨b, 0, none⟩) (16 * N) c] 62) * pt q2 (cl [.int .i64 16] 3))) := by
  refine fn_enterW (args := [.slice (some ⟨b, 0, none⟩) (16 * N) c, .int .i64 16]) Try.func51 rfl Try.ntmps51 (by simp) ?_; refine sr ?_; refine tl_x rfl (o_box rfl rfl) ?_; rintro _ _ ⟨b2, rfl, rfl⟩; refine tl_x rfl (o_box rfl rfl) ?_; rintro _ _ ⟨b3, rfl, rfl⟩; refine tla ?_; refine nq ?_; refine tc_seq ?_; refine sr ?_; refine tv (by first | exact o_load p3 rfl (by repeat (first | with_reducible exact has_here | with_reducible exact has_pt | apply has_left)) rfl | exact o_loadC p3 rfl (by assumption)) ?_; refine tv (o_lss rfl rfl) ?_; refine nq ?_; refine tc_cond rfl (fun h => ?_) (fun h => ?_)
  · exfalso; simp at h
  · try simp only [lv1, lv2, lv3, lv4, lv5, lv6, Bool.not_true, Bool.not_false] at h
    refine tc_skip ?_; refine q_then_n ?_; refine sr ?_; refine tv (o_makeFunc rfl rfl) ?_; refine tla ?_; refine nq ?_; refine tc_ret ?_; exact ⟨_, _, res1 rfl rfl, fun _ _ h => h, b2, b3, rfl, (starM2 _ _ _).symm⟩
end Go.Vl

set_option linter.unusedVariables false
set_option linter.unusedSimpArgs false
namespace Go.Vl
open Go Go.Proofs
namespace Rg
section
variable {P : Program} {m : Nat} {ops : Array Oper} {μ : Rm}
/-- No operation of a row is a defer: by reckoning. -/
def nodB (l : List Oper) : Bool := l.all fun o => match o.op with | .defer _ => false | _ => true
theorem nod_of {l : List Oper} (h : nodB l = true) : ∀ (i : Nat) (o : Oper), l.toArray[i]? = some o → ∀ c, o.op ≠ .defer c := fun i o hi c e => by
  have h1 := List.all_eq_true.1 h o (List.mem_of_getElem? (by simpa using hi))
  simp [e] at h1
theorem upon_tr {o : Oper} {a : Act} {K : Act → World → Prop} {Q : Exit → Act → World → Prop} {r : Result Next} : Oper.uponIn (Fc ⟨none⟩) m P o a K Q r = Oper.uponIn (Fc μ) m P o a K Q r := by
  cases r with
  | ok x w => cases x <;> rfl
  | halt x w => cases x <;> rfl
theorem op_tr {i : Nat} {K : Act → World → Prop} {Q : Exit → Act → World → Prop} {a : Act} {w : World} (hnd : ∀ (i : Nat) (o : Oper), ops[i]? = some o → ∀ c, o.op ≠ .defer c) (h : wpOpIn (Fc ⟨none⟩) m P ops Q i K a w) : wpOpIn (Fc μ) m P ops Q i K a w := by
  unfold wpOpIn at *
  cases hi : ops[i]? with
  | none => simpa [hi] using h
  | some o =>
    simp only [hi] at h ⊢
    split
    · rename_i hw
      simp only [hw, if_true] at h
      unfold Oper.wpIn at *
      rw [Oper.semAt_eq _ _ _ (hnd i o hi)] at h ⊢
      rw [← upon_tr]
      exact h
    · rename_i hw
      simp only [hw] at h
      exact h
theorem any_tr {Q : Exit → Act → World → Prop} (hnd : ∀ (i : Nat) (o : Oper), ops[i]? = some o → ∀ c, o.op ≠ .defer c) : ∀ (fuel : Nat) (listed : Array Bool) (a : Act) (w : World), wpAnyIn (Fc ⟨none⟩) m P .any ops Q fuel listed a w → wpAnyIn (Fc μ) m P .any ops Q fuel listed a w
  | 0, _, _, _, h => h
  | fuel + 1, _, _, _, h => ⟨h.1, fun i hi => op_tr hnd (wpOpIn_mono (fun a w => any_tr hnd fuel _ a w) (h.2 i hi))⟩
/-- What is left of a region in a round: by what is left of it in a function. -/
theorem tc_regt {n : Nat} {Q : Post} {ρ : Env} {A : SP} {id : Nat} {l : List Oper} (hm : P.follows .mixedOrders = true) (hd : nodB l = true)
    (h : ∀ g a w, Agr n ρ a → sat g w A → wpAnyIn (Fc ⟨none⟩) 0 P .any l.toArray (lift g n Q) l.length (Array.replicate l.length false) a w) : @TC μ P n (.region id l.toArray true) Q ρ A := fun g a w ha hs =>
  wpIn_region_any hm (by
    have h1 := h g a { w with drawn := w.drawn + 1 } ha (hs.draw rfl rfl rfl rfl)
    have h2 := any_tr (μ := μ) (nod_of hd) _ _ _ _ h1
    simpa using h2)
end
end Rg
end Go.Vl

set_option linter.unusedVariables false
set_option linter.unusedSimpArgs false
namespace Go.Vl
open Go Go.Proofs
namespace Rg
section
variable {P : Program} {n : Nat} {ops : Array Oper} {A S : SP} {ρ : Env} {o : Oper} {Q : Post}
def notCall (o : Oper) : Bool := match o.op with | .call _ => false | _ => true
theorem about_none {o : Oper} (h : notCall o = true) (w : World) (e : Operand → Value) : o.about P w e = none := by
  unfold notCall at h
  unfold Oper.about
  cases ho : o.op <;> first | rfl | (simp [ho] at h)
def TH (P : Program) (n : Nat) (ops : Array Oper) (Q : Post) (S : SP) (fuel : Nat) (listed : Array Bool) (ρ : Env) (A : SP) : Prop :=
  ∀ g a w, Agr n ρ a → sat g w A → wpAnyIn (Fc ⟨none⟩) 0 P .any ops (lift g n Q) fuel listed a w
theorem tc_regh {μ : Rm} {id : Nat} {l : List Oper} (hm : P.follows .mixedOrders = true) (hd : Dr A S) (h : TH P n l.toArray Q S l.length (Array.replicate l.length false) ρ A) (hn : nodB l = true := by kernel_rfl) : @TC μ P n (.region id l.toArray true) Q ρ A :=
  tc_regt hm hn h
theorem th_done {fuel : Nat} {listed : Array Bool} (hr : Region.ready .any ops listed = []) (h : Q .normal ρ A) : TH P n ops Q S fuel listed ρ A := fun g a w ha hs =>
  wpAnyIn_done hr ⟨rfl, ρ, A, ha, hs, h⟩ fuel
theorem th_take {fuel i : Nat} {listed listed' : Array Bool} {v : Value} (hi : ops[i]? = some o) (hs' : Region.noSelect ops = true) (hf : Region.free .any ops listed i = true) (hr : (Region.ready .any ops listed).contains i = true)
    (hl : listed.setIfInBounds i true = listed') (hw : wantE n ops ρ o = true) (hv : OpV P n ρ emp o v) (k : TH P n ops Q S fuel listed' (put n ρ o.dst v) A) (hc : notCall o = true := by rfl) : TH P n ops Q S (fuel + 1) listed ρ A := fun g a w ha hs =>
  wpAnyIn_take rfl hi hs' hf hr (fun c a w h => absurd h.1 (by simp [okE])) ⟨.inl ⟨by rw [want_eq ha, hw], fun w' => by
    rw [ha.eval]
    exact hv ⟨w'.os, w'.tape, w'.output⟩ w' ⟨rfl, rfl, rfl, _, rfl, fun _ _ _ h => by cases h⟩⟩, fun w' => about_none hc w' _⟩ (by rw [hl]; exact k g _ w (ha.put _ _) hs)
def OH (P : Program) (n : Nat) (ops : Array Oper) (Q : Post) (S : SP) (fuel i : Nat) (listed : Array Bool) (ρ : Env) (A : SP) : Prop :=
  ∀ g a w, Agr n ρ a → sat g w A → wpOpIn (Fc ⟨none⟩) 0 P ops (lift g n Q) i (wpAnyIn (Fc ⟨none⟩) 0 P .any ops (lift g n Q) fuel (listed.setIfInBounds i true)) a w
theorem th_all {fuel : Nat} {listed : Array Bool} {rs : List Nat} (hr : Region.ready .any ops listed = rs) (hne : rs ≠ []) (h : ∀ i ∈ rs, OH P n ops Q S fuel i listed ρ A) : TH P n ops Q S (fuel + 1) listed ρ A := fun g a w ha hs =>
  wpAnyIn_all hr hne fun i hi => h i hi g a w ha hs
theorem th_one {fuel i : Nat} {listed : Array Bool} (hr : Region.ready .any ops listed = [i]) (h : OH P n ops Q S fuel i listed ρ A) : TH P n ops Q S (fuel + 1) listed ρ A := th_all hr (by simp) (by simpa using h)
theorem th_two {fuel i j : Nat} {listed : Array Bool} (hr : Region.ready .any ops listed = [i, j]) (h : OH P n ops Q S fuel i listed ρ A) (h' : OH P n ops Q S fuel j listed ρ A) : TH P n ops Q S (fuel + 1) listed ρ A :=
  th_all hr (by simp) (by simpa using ⟨h, h'⟩)
section
variable {fuel i : Nat} {listed listed' : Array Bool}
theorem oh_v {v : Value} (hi : ops[i]? = some o) (hl : listed.setIfInBounds i true = listed') (hw : wantE n ops ρ o = true) (h : OpV P n ρ A o v) (k : TH P n ops Q S fuel listed' (put n ρ o.dst v) A) : OH P n ops Q S fuel i listed ρ A := fun g a w ha hs => by
  subst hl
  unfold wpOpIn
  simp only [hi, want_eq ha, hw, if_true]
  refine ⟨fun _ _ => trivial, ?_⟩
  rw [ha.eval, sem_eq (h g w hs) (by simp)]
  exact k g _ w (ha.put _ _) hs
theorem oh_x {R : Value → SP → Prop} (hi : ops[i]? = some o) (hl : listed.setIfInBounds i true = listed') (hw : wantE n ops ρ o = true) (h : OpX P n ρ A o R) (k : ∀ v B, R v B → Dr B S ∧ TH P n ops Q S fuel listed' (put n ρ o.dst v) B) : OH P n ops Q S fuel i listed ρ A := fun g a w ha hs => by
  subst hl
  unfold wpOpIn
  simp only [hi, want_eq ha, hw, if_true]
  refine ⟨fun _ _ => trivial, ?_⟩
  obtain ⟨v, w', B, hr, hb, hR⟩ := h g w hs
  rw [ha.eval, sem_eq hr (by simp)]
  exact (k v B hR).2 g _ w' (ha.put _ _) hb
theorem oh_u {B : SP} (hi : ops[i]? = some o) (hl : listed.setIfInBounds i true = listed') (hw : wantE n ops ρ o = true) (h : OpU P n ρ A o B) (hd : Dr B S) (k : TH P n ops Q S fuel listed' (put n ρ o.dst undef) B) : OH P n ops Q S fuel i listed ρ A := fun g a w ha hs => by
  subst hl
  unfold wpOpIn
  simp only [hi, want_eq ha, hw, if_true]
  refine ⟨fun _ _ => trivial, ?_⟩
  obtain ⟨w', hr, hb⟩ := h g w hs
  rw [ha.eval, sem_eq hr (by simp)]
  exact k g _ w' (ha.put _ _) hb
end
theorem th_env {fuel : Nat} {listed : Array Bool} {d : Nat} {v : Value} (h : ρ d = v) (k : TH P n ops Q S fuel listed (upd ρ d v) A) : TH P n ops Q S fuel listed ρ A := by
  rw [← env_set h] at k; exact k
end
end Rg
end Go.Vl

set_option linter.unusedVariables false
set_option linter.unusedSimpArgs false
namespace Go.Vl
open Go Go.Proofs
theorem rs_off {A : SP} {b k : Nat} {xs : List Value} (h : Rs A (some ⟨b, 0, none⟩) xs) : Rs A (some ⟨b, k, none⟩) (xs.drop k) := fun g w hs i v hv => by
  rw [List.getElem?_drop] at hv
  obtain ⟨b', o, e, hc⟩ := h g w hs (k + i) v hv
  simp only [Option.some.injEq, Addr.mk.injEq, and_true] at e
  obtain ⟨rfl, rfl⟩ := e
  exact ⟨b, k, rfl, by simpa using hc⟩
attribute [local irreducible] Sl pt ro SlB
namespace Rg
theorem Unpack_c {A : SP} {s : ByteArray} :
    Fn Try.prog 30 #[.string s] (A) (fun r B => ∃ a2 c2, r = .tuple #[.slice a2 (unpS s).1.length c2, .int .i64 (unpS s).2] ∧ (unpS s).1.length ≤ c2 ∧ B = A * Sl 3 (.slice a2 (unpS s).1.length c2) (unpS s).1.length (mcs (unpS s).1)) := by
  refine fn_enterW (args := [.string s]) Try.func30 rfl Try.ntmps30 (by simp) ?_
  have hxl := sbys_len s
  refine tc_seq ?_; refine tc_reg ?_; refine tl_x rfl (o_alloc z22 rfl) ?_; rintro _ _ ⟨b2, rfl, rfl⟩; refine tl_x rfl (o_alloc z26 rfl) ?_; rintro _ _ ⟨b3, rfl, rfl⟩; refine tl_nil ?_; refine q_then_n ?_; refine tc_seq ?_; refine tc_seq ?_; refine tc_reg ?_; refine tlm ?_; refine tl_v rfl (o_lenS Try.underlying9 rfl) ?_; refine tl_v rfl (o_remN (b := 16) rfl rfl (by decide)) ?_; refine tl_v rfl (o_nei rfl rfl) ?_; refine tlm ?_; refine tl_bool (d := 16) rfl (fun h => ?_) (fun h => ?_)
  · have g13 : s.size % 16 ≠ 0 := by first | omega | (simp at h; omega)
    refine tl_skip rfl ?_; refine tl_skip rfl ?_; refine tl_skip rfl ?_; refine tl_v rfl (o_pick_t rfl (by conv => lhs; whnf)) ?_; refine tl_nil ?_; refine q_then_n ?_; refine tc_cond_t rfl ?_; refine tc_seq ?_; refine tc_reg ?_; refine tl_u rfl (o_stU rfl (by repeat (first | with_reducible exact upd_here | with_reducible exact upd_pt | apply upd_left)) sz22 rfl rfl (by first | decide | simp | omega) rfl) ?_; refine tl_u rfl (o_stU rfl (by repeat (first | with_reducible exact upd_here | with_reducible exact upd_pt | apply upd_left)) sz26 rfl rfl (by first | decide | simp | omega) rfl) ?_; refine tl_nil ?_; refine q_then_n ?_; refine tc_ret ?_; refine q_then_r ?_
    have e0 : unpS s = ([], 190) := by unfold unpS; rw [if_pos (by omega)]
    rw [e0]
    exact ⟨[], _, rfl, fun _ _ h => mk0 h, .tuple #[.slice none 0 0, .int .i64 190], A * Sl 3 (.slice none 0 0) 0 [], resA2 rfl (rv_cell1 p22 rfl (by repeat (first | with_reducible exact has_here | with_reducible exact has_pt | apply has_left)) rfl) (rv_cell1 p26 rfl (by repeat (first | with_reducible exact has_here | with_reducible exact has_pt | apply has_left)) rfl), fun _ _ h => sl_nil (Dr.sat (by repeat (first | with_reducible exact dr_refl | apply dr_keep | apply dr_drop)) _ _ h), none, 0, rfl, Nat.le_refl _, rfl⟩
  · have g13 : s.size % 16 = 0 := by first | omega | (simp at h; omega)
    refine tlm ?_; refine tl_v rfl (o_lenS Try.underlying9 rfl) ?_; refine tl_v rfl (o_gtr rfl rfl) ?_; refine tl_v rfl (o_pick_f rfl (by conv => lhs; whnf)) ?_; refine tl_nil ?_; refine q_then_n ?_; refine tc_cond rfl (fun h => ?_) (fun h => ?_)
    · have g17 : 512 < s.size := by first | omega | (simp at h; omega)
      refine tc_seq ?_; refine tc_reg ?_; refine tl_u rfl (o_stU rfl (by repeat (first | with_reducible exact upd_here | with_reducible exact upd_pt | apply upd_left)) sz22 rfl rfl (by first | decide | simp | omega) rfl) ?_; refine tl_u rfl (o_stU rfl (by repeat (first | with_reducible exact upd_here | with_reducible exact upd_pt | apply upd_left)) sz26 rfl rfl (by first | decide | simp | omega) rfl) ?_; refine tl_nil ?_; refine q_then_n ?_; refine tc_ret ?_; refine q_then_r ?_
      have e0 : unpS s = ([], 190) := by unfold unpS; rw [if_pos (by omega)]
      rw [e0]
      exact ⟨[], _, rfl, fun _ _ h => mk0 h, .tuple #[.slice none 0 0, .int .i64 190], A * Sl 3 (.slice none 0 0) 0 [], resA2 rfl (rv_cell1 p22 rfl (by repeat (first | with_reducible exact has_here | with_reducible exact has_pt | apply has_left)) rfl) (rv_cell1 p26 rfl (by repeat (first | with_reducible exact has_here | with_reducible exact has_pt | apply has_left)) rfl), fun _ _ h => sl_nil (Dr.sat (by repeat (first | with_reducible exact dr_refl | apply dr_keep | apply dr_drop)) _ _ h), none, 0, rfl, Nat.le_refl _, rfl⟩
    · have g17 : s.size ≤ 512 := by first | omega | (simp at h; omega)
      obtain ⟨M, hM⟩ : ∃ M, s.size / 16 = M := ⟨_, rfl⟩
      have hsz : s.size = 16 * M := by omega
      refine tc_skip ?_; refine q_then_n ?_; refine tc_seq ?_; refine tc_reg ?_; refine tl_x rfl (o_alloc z22 rfl) ?_; rintro _ _ ⟨b4, rfl, rfl⟩; refine tl_nil ?_; refine q_then_n ?_; refine tc_seq ?_; refine tc_seq ?_; refine tc_reg ?_; refine tlm ?_; refine tl_x rfl (o_s2b Try.underlying9 Try.underlying62 Try.underlying5 rfl) ?_; rintro _ _ ⟨b22, c22, o22, rfl, hc22, hr22, rfl⟩; refine tl_env (d := 22) (v := .slice (some ⟨b22, 0, none⟩) (16 * M) c22) (by rw [← hsz]; rfl) ?_; refine tl_c rfl (o_call bd51 rfl (chunk_c (b := b22) (c := c22) (N := M))) ?_; rintro _ _ ⟨q1, q2, rfl, rfl⟩; refine tl_nil ?_; refine q_then_n ?_; refine tc_block ?_; refine tc_rangeI (K := (pt q1 (cl [.slice (some ⟨b22, 0, none⟩) (16 * M) c22] 62) * pt q2 (cl [.int .i64 16] 3))) (N := M) (A0 := A * pt b22 o22 * pt b2 (cl [.slice none 0 0] 22) * pt b3 (cl [.int .i64 0] 26) * pt b4 (cl [.slice none 0 0] 22) * Sl 3 (.slice none 0 0) 0 (mcs (unL (sbys s) 0))) (fun i S => ∃ (a4 : Option Addr) (c4 : Nat), (i ≤ c4) ∧ (∀ j, j < i → farA ((sbys s).drop (16 * j)) = false) ∧ S = A * pt b22 o22 * pt b2 (cl [.slice none 0 0] 22) * pt b3 (cl [.int .i64 0] 26) * pt b4 (cl [.slice a4 i c4] 22) * Sl 3 (.slice a4 i c4) i (mcs (unL (sbys s) i))) (fun j S => ∃ (k : Nat) (a4 : Option Addr) (c4 : Nat), j = .ret ∧ (unpS s = ([], 190)) ∧ S = A * pt b22 o22 * pt b2 (cl [.slice none 0 0] 22) * pt b3 (cl [.int .i64 190] 26) * pt b4 (cl [.slice a4 k c4] 22) * Sl 3 (.slice a4 k c4) k (mcs (unL (sbys s) k))) rfl bd68 (chunk_it (b := b22) (c := c22) (N := M) (by omega) (by omega)) (fun _ => rfl) rfl (fun _ _ h => (sl_nil (k := 3) h).perm (by ac_rfl)) (⟨none, 0, by omega, by intro j hj; omega, rfl⟩) ?_ ?_ ?_
      · intro l F i S hi hI
        obtain ⟨a4, c4, hi0, hi1, rfl⟩ := hI
        refine tc_eq (by simp only [← star_assoc]; rfl) ?_
        obtain ⟨X, hX⟩ : ∃ X, (sbys s).drop (16 * i) = X := ⟨_, rfl⟩
        have hX16 : (X.take 16).length = 16 := by rw [← hX, List.length_take, List.length_drop]; omega
        have hXb : ∀ x ∈ X.take 16, x < 256 := fun x hx => by obtain ⟨b, _, rfl⟩ := List.mem_map.1 (List.mem_of_mem_drop (List.mem_of_mem_take (hX.symm ▸ hx))); exact b.toNat_lt
        have e48 : ((X.take 16).drop 4).take 8 = (X.drop 4).take 8 := by rw [List.drop_take, List.take_take]; rfl
        have e04 : ((X.take 16).drop 0).take 4 = X.take 4 := by rw [List.drop_zero, List.take_take]; rfl
        have h12 : 12 < X.length := by rw [List.length_take] at hX16; omega
        have hb12 : (bys (X.take 16))[12]? = some (.int .u8 (X.getD 12 0 : Nat)) := by unfold bys; rw [List.getElem?_map, List.getElem?_take, if_pos (by decide), List.getD_eq_getElem?_getD, List.getElem?_eq_getElem h12]; rfl
        refine tc_env (d := 24) (v := .slice (some ⟨b22, 16 * i, none⟩) 16 16) rfl ?_; refine tc_reg ?_; refine tla ?_; refine tl_nil ?_; refine ⟨A * pt b22 o22 * pt b2 (cl [.slice none 0 0] 22) * pt b3 (cl [.int .i64 0] 26) * pt b4 (cl [.slice a4 i c4] 22) * Sl 3 (.slice a4 i c4) i (mcs (unL (sbys s) i)), fun g w h => by simp only [← star_assoc]; exact Dr.sat (by repeat (first | with_reducible exact dr_refl | apply dr_keep | apply dr_drop)) g w h, fun F => ?_⟩; refine tc_eq (by simp only [← star_assoc]; rfl) ?_; refine tc_block ?_; refine tc_seq ?_; refine tc_reg ?_; refine tlm ?_; refine tl_c rfl (o_call bd52 rfl (Take32_c (p := 0) (xs := X.take 16) (hr := (by have h9 := fun R => (rs_off (k := 16 * i) (hr22 R)).sub 16; simp only [bys, ← List.map_drop, ← List.map_take, hX] at h9; repeat (first | exact h9 _ | apply Rs.left))))) ?_; rintro _ _ ⟨rfl, rfl⟩; refine tlm ?_; refine tl_v rfl (o_extract rfl rfl) ?_; refine tl_env (d := 28) (v := .int .u32 (nm (X.take 4) : Nat)) (by show Value.int .u32 _ = _; rw [e04]) ?_; refine tl_v rfl (o_extract rfl rfl) ?_; refine tla ?_; refine tla ?_; refine tl_nil ?_; refine q_then_n ?_; refine tc_seq ?_; refine tc_reg ?_; refine tlm ?_; refine tl_c rfl (o_call bd53 rfl (Take64_c (p := 4) (xs := X.take 16) (hr := (by have h9 := fun R => (rs_off (k := 16 * i) (hr22 R)).sub 16; simp only [bys, ← List.map_drop, ← List.map_take, hX] at h9; repeat (first | exact h9 _ | apply Rs.left))))) ?_
        rintro _ _ ⟨rfl, rfl⟩; refine tlm ?_; refine tl_v rfl (o_extract rfl rfl) ?_; refine tl_env (d := 33) (v := .int .u64 (nm ((X.drop 4).take 8) : Nat)) (by show Value.int .u64 _ = _; rw [e48]) ?_; refine tl_v rfl (o_extract rfl rfl) ?_; refine tla ?_; refine tla ?_; refine tl_nil ?_; refine q_then_n ?_; refine tc_seq ?_; refine tc_seq ?_; refine tc_reg ?_; refine tlm ?_; refine tl_v rfl (o_gtr rfl rfl) ?_; refine tl_nil ?_; refine q_then_n ?_; refine tc_cond rfl (fun h => ?_) (fun h => ?_)
        · have hfar : farA ((sbys s).drop (16 * i)) = true := by rw [hX]; unfold farA; exact decide_eq_true (by first | omega | (simp at h; omega) | (rw [e48] at h; first | omega | (simp at h; omega)))
          refine tc_seq ?_; refine tc_reg ?_; refine tl_u rfl (o_stU rfl (by repeat (first | with_reducible exact upd_here | with_reducible exact upd_pt | apply upd_left)) sz22 rfl rfl (by first | decide | simp | omega) rfl) ?_; refine tl_u rfl (o_stU rfl (by repeat (first | with_reducible exact upd_here | with_reducible exact upd_pt | apply upd_left)) sz26 rfl rfl (by first | decide | simp | omega) rfl) ?_; refine tl_nil ?_; refine q_then_n ?_; refine tc_ret ?_; refine q_then_r (q_block_r ?_); exact ⟨A * pt b22 o22 * pt b2 (cl [.slice none 0 0] 22) * pt b3 (cl [.int .i64 190] 26) * pt b4 (cl [.slice (a4) (i) (c4)] 22) * Sl 3 (.slice (a4) (i) (c4)) (i) (mcs (unL (sbys s) (i))), fun g w h => by simp only [← star_assoc]; exact Dr.sat (by repeat (first | with_reducible exact dr_refl | apply dr_keep | apply dr_drop)) g w h, i, a4, c4, rfl, by unfold unpS; rw [if_neg (by omega), hM, if_pos (List.any_eq_true.2 ⟨i, List.mem_range.2 hi, hfar⟩)], rfl⟩
        · have hf8 : nm ((X.drop 4).take 8) ≤ 9223372036854775807 := by first | omega | (simp at h; omega) | (rw [e48] at h; first | omega | (simp at h; omega))
          have hfar : farA ((sbys s).drop (16 * i)) = false := by rw [hX]; unfold farA; exact decide_eq_false (by omega)
          refine tc_skip ?_; refine q_then_n ?_; refine tc_regh (S := F) mo (by repeat (first | with_reducible exact dr_refl | apply dr_keep | apply dr_drop)) ?_
          show TH _ _ _ _ _ 11 #[ff,ff,ff,ff,ff,ff,ff,ff,ff,ff,ff] _ _
          refine th_take (i := 1) (listed' := #[ff,tt,ff,ff,ff,ff,ff,ff,ff,ff,ff]) rfl (by kernel_rfl) (by kernel_rfl) (by kernel_rfl) rfl rfl (o_move (by conv => lhs; whnf)) ?_; refine th_take (i := 2) (listed' := #[ff,tt,tt,ff,ff,ff,ff,ff,ff,ff,ff]) rfl (by kernel_rfl) (by kernel_rfl) (by kernel_rfl) rfl rfl (o_move (by conv => lhs; whnf)) ?_; refine th_take (i := 3) (listed' := #[ff,tt,tt,tt,ff,ff,ff,ff,ff,ff,ff]) rfl (by kernel_rfl) (by kernel_rfl) (by kernel_rfl) rfl rfl (o_conv Try.underlying66 Try.underlying3 rfl) ?_; refine th_env (d := 40) (v := .int .i64 (nm ((X.drop 4).take 8) : Nat)) (by show Value.int .i64 (IntKind.i64.wrap _) = _; rw [wrap_i64 (by omega)]) ?_; refine th_take (i := 4) (listed' := #[ff,tt,tt,tt,tt,ff,ff,ff,ff,ff,ff]) rfl (by kernel_rfl) (by kernel_rfl) (by kernel_rfl) rfl rfl (o_move (by conv => lhs; whnf)) ?_; refine th_take (i := 5) (listed' := #[ff,tt,tt,tt,tt,tt,ff,ff,ff,ff,ff]) rfl (by kernel_rfl) (by kernel_rfl) (by kernel_rfl) rfl rfl (o_ixP1 Try.underlying62 sz5 rfl rfl (by first | omega | (simp only [bys_length, ints_length, wds_length, bos_length, List.length_append, List.length_take, List.length_drop, List.length_singleton]; omega)) (by repeat (first | exact nn_some | with_reducible exact nn_sl (by decide) | exact nn_rs (by assumption) (fun _ => by first | omega | (simp only [bys_length, ints_length, wds_length, bos_length, List.length_append, List.length_take, List.length_drop, List.length_singleton]; omega)) | apply Nn.left))) ?_
          refine th_two (i := 0) (j := 6) (by kernel_rfl) ?_ ?_
          · skip
            refine oh_v (i := 0) (listed' := #[tt,tt,tt,tt,tt,tt,ff,ff,ff,ff,ff]) rfl rfl rfl (by first | exact o_load p22 rfl (by repeat (first | with_reducible exact has_here | with_reducible exact has_pt | apply has_left)) rfl | exact o_loadC p22 rfl (by assumption)) ?_; refine th_one (i := 6) (by kernel_rfl) ?_; refine oh_v (i := 6) (listed' := #[tt,tt,tt,tt,tt,tt,tt,ff,ff,ff,ff]) rfl rfl rfl (o_ldP (xs := bys (X.take 16)) p5 rfl (by have h9 := fun R => (rs_off (k := 16 * i) (hr22 R)).sub 16; simp only [bys, ← List.map_drop, ← List.map_take, hX] at h9; repeat (first | exact h9 _ | apply Rs.left)) hb12) ?_; refine th_take (i := 7) (listed' := #[tt,tt,tt,tt,tt,tt,tt,tt,ff,ff,ff]) rfl (by kernel_rfl) (by kernel_rfl) (by kernel_rfl) rfl rfl (o_bS (l := [_, _, _]) (pv_cons (by conv => lhs; whnf) (pv_cons (by conv => lhs; whnf) (pv_cons (by conv => lhs; whnf) pv_nil))) Try.underlying35 z35 (pl35 Try.underlying35) rfl) ?_; refine th_one (i := 8) (by kernel_rfl) ?_; refine oh_x (i := 8) (listed' := #[tt,tt,tt,tt,tt,tt,tt,tt,tt,ff,ff]) rfl rfl rfl (o_buildSliceK (k := 3) (l := (mkA X).cells) Try.underlying22 sz35 z35 rfl rfl (by decide)) ?_; rintro _ _ ⟨b45, rfl, rfl⟩; refine ⟨by repeat (first | with_reducible exact dr_refl | apply dr_keep | apply dr_drop), ?_⟩; refine th_one (i := 9) (by kernel_rfl) ?_; refine oh_x (i := 9) (listed' := #[tt,tt,tt,tt,tt,tt,tt,tt,tt,tt,ff]) rfl rfl rfl (o_apB Try.underlying22 Try.underlying22 sz35 by35 z35 rfl (by decide) (by decide) rfl rfl rfl (by repeat (first | with_reducible exact ct_here | apply ct_left)) rfl rfl (by omega) (show _ = mcs (unL (sbys s) i ++ [mkA X]) by rw [mcs_append]; rfl)) ?_
            rintro _ _ ⟨a46, c46, rfl, hc46, rfl⟩; refine ⟨by repeat (first | with_reducible exact dr_refl | apply dr_keep | apply dr_drop), ?_⟩; refine th_one (i := 10) (by kernel_rfl) ?_; refine oh_u (i := 10) (listed' := #[tt,tt,tt,tt,tt,tt,tt,tt,tt,tt,tt]) rfl rfl rfl (o_stU rfl (by repeat (first | with_reducible exact upd_here | with_reducible exact upd_pt | apply upd_left)) sz22 rfl rfl (by first | decide | simp | omega) rfl) (by repeat (first | with_reducible exact dr_refl | apply dr_keep | apply dr_drop)) ?_; refine th_done (by kernel_rfl) ?_; refine q_block_n ?_; exact ⟨A * pt b22 o22 * pt b2 (cl [.slice none 0 0] 22) * pt b3 (cl [.int .i64 0] 26) * pt b4 (cl [.slice a46 (i + 1) c46] 22) * Sl 3 (.slice a46 (i + 1) c46) (i + 1) (mcs (unL (sbys s) i ++ [mkA X])), fun g w h => by simp only [← star_assoc]; exact Dr.sat (by repeat (first | with_reducible exact dr_refl | apply dr_keep | apply dr_drop)) g w h, a46, c46, hc46, by intro j hj; rcases Nat.lt_succ_iff_lt_or_eq.1 hj with h1 | rfl; exact hi1 j h1; exact hfar, by rw [unL_succ, hX]⟩
          · skip
            refine oh_v (i := 6) (listed' := #[ff,tt,tt,tt,tt,tt,tt,ff,ff,ff,ff]) rfl rfl rfl (o_ldP (xs := bys (X.take 16)) p5 rfl (by have h9 := fun R => (rs_off (k := 16 * i) (hr22 R)).sub 16; simp only [bys, ← List.map_drop, ← List.map_take, hX] at h9; repeat (first | exact h9 _ | apply Rs.left)) hb12) ?_; refine th_take (i := 7) (listed' := #[ff,tt,tt,tt,tt,tt,tt,tt,ff,ff,ff]) rfl (by kernel_rfl) (by kernel_rfl) (by kernel_rfl) rfl rfl (o_bS (l := [_, _, _]) (pv_cons (by conv => lhs; whnf) (pv_cons (by conv => lhs; whnf) (pv_cons (by conv => lhs; whnf) pv_nil))) Try.underlying35 z35 (pl35 Try.underlying35) rfl) ?_; refine th_two (i := 0) (j := 8) (by kernel_rfl) ?_ ?_
            · skip
              refine oh_v (i := 0) (listed' := #[tt,tt,tt,tt,tt,tt,tt,tt,ff,ff,ff]) rfl rfl rfl (by first | exact o_load p22 rfl (by repeat (first | with_reducible exact has_here | with_reducible exact has_pt | apply has_left)) rfl | exact o_loadC p22 rfl (by assumption)) ?_; refine th_one (i := 8) (by kernel_rfl) ?_; refine oh_x (i := 8) (listed' := #[tt,tt,tt,tt,tt,tt,tt,tt,tt,ff,ff]) rfl rfl rfl (o_buildSliceK (k := 3) (l := (mkA X).cells) Try.underlying22 sz35 z35 rfl rfl (by decide)) ?_; rintro _ _ ⟨b45, rfl, rfl⟩; refine ⟨by repeat (first | with_reducible exact dr_refl | apply dr_keep | apply dr_drop), ?_⟩; refine th_one (i := 9) (by kernel_rfl) ?_; refine oh_x (i := 9) (listed' := #[tt,tt,tt,tt,tt,tt,tt,tt,tt,tt,ff]) rfl rfl rfl (o_apB Try.underlying22 Try.underlying22 sz35 by35 z35 rfl (by decide) (by decide) rfl rfl rfl (by repeat (first | with_reducible exact ct_here | apply ct_left)) rfl rfl (by omega) (show _ = mcs (unL (sbys s) i ++ [mkA X]) by rw [mcs_append]; rfl)) ?_; rintro _ _ ⟨a46, c46, rfl, hc46, rfl⟩; refine ⟨by repeat (first | with_reducible exact dr_refl | apply dr_keep | apply dr_drop), ?_⟩; refine th_one (i := 10) (by kernel_rfl) ?_; refine oh_u (i := 10) (listed' := #[tt,tt,tt,tt,tt,tt,tt,tt,tt,tt,tt]) rfl rfl rfl (o_stU rfl (by repeat (first | with_reducible exact upd_here | with_reducible exact upd_pt | apply upd_left)) sz22 rfl rfl (by first | decide | simp | omega) rfl) (by repeat (first | with_reducible exact dr_refl | apply dr_keep | apply dr_drop)) ?_
              refine th_done (by kernel_rfl) ?_; refine q_block_n ?_; exact ⟨A * pt b22 o22 * pt b2 (cl [.slice none 0 0] 22) * pt b3 (cl [.int .i64 0] 26) * pt b4 (cl [.slice a46 (i + 1) c46] 22) * Sl 3 (.slice a46 (i + 1) c46) (i + 1) (mcs (unL (sbys s) i ++ [mkA X])), fun g w h => by simp only [← star_assoc]; exact Dr.sat (by repeat (first | with_reducible exact dr_refl | apply dr_keep | apply dr_drop)) g w h, a46, c46, hc46, by intro j hj; rcases Nat.lt_succ_iff_lt_or_eq.1 hj with h1 | rfl; exact hi1 j h1; exact hfar, by rw [unL_succ, hX]⟩
            · skip
              refine oh_x (i := 8) (listed' := #[ff,tt,tt,tt,tt,tt,tt,tt,tt,ff,ff]) rfl rfl rfl (o_buildSliceK (k := 3) (l := (mkA X).cells) Try.underlying22 sz35 z35 rfl rfl (by decide)) ?_; rintro _ _ ⟨b45, rfl, rfl⟩; refine ⟨by repeat (first | with_reducible exact dr_refl | apply dr_keep | apply dr_drop), ?_⟩; refine th_one (i := 0) (by kernel_rfl) ?_; refine oh_v (i := 0) (listed' := #[tt,tt,tt,tt,tt,tt,tt,tt,tt,ff,ff]) rfl rfl rfl (by first | exact o_load p22 rfl (by repeat (first | with_reducible exact has_here | with_reducible exact has_pt | apply has_left)) rfl | exact o_loadC p22 rfl (by assumption)) ?_; refine th_one (i := 9) (by kernel_rfl) ?_; refine oh_x (i := 9) (listed' := #[tt,tt,tt,tt,tt,tt,tt,tt,tt,tt,ff]) rfl rfl rfl (o_apB Try.underlying22 Try.underlying22 sz35 by35 z35 rfl (by decide) (by decide) rfl rfl rfl (by repeat (first | with_reducible exact ct_here | apply ct_left)) rfl rfl (by omega) (show _ = mcs (unL (sbys s) i ++ [mkA X]) by rw [mcs_append]; rfl)) ?_; rintro _ _ ⟨a46, c46, rfl, hc46, rfl⟩; refine ⟨by repeat (first | with_reducible exact dr_refl | apply dr_keep | apply dr_drop), ?_⟩; refine th_one (i := 10) (by kernel_rfl) ?_; refine oh_u (i := 10) (listed' := #[tt,tt,tt,tt,tt,tt,tt,tt,tt,tt,tt]) rfl rfl rfl (o_stU rfl (by repeat (first | with_reducible exact upd_here | with_reducible exact upd_pt | apply upd_left)) sz22 rfl rfl (by first | decide | simp | omega) rfl) (by repeat (first | with_reducible exact dr_refl | apply dr_keep | apply dr_drop)) ?_
              refine th_done (by kernel_rfl) ?_; refine q_block_n ?_; exact ⟨A * pt b22 o22 * pt b2 (cl [.slice none 0 0] 22) * pt b3 (cl [.int .i64 0] 26) * pt b4 (cl [.slice a46 (i + 1) c46] 22) * Sl 3 (.slice a46 (i + 1) c46) (i + 1) (mcs (unL (sbys s) i ++ [mkA X])), fun g w h => by simp only [← star_assoc]; exact Dr.sat (by repeat (first | with_reducible exact dr_refl | apply dr_keep | apply dr_drop)) g w h, a46, c46, hc46, by intro j hj; rcases Nat.lt_succ_iff_lt_or_eq.1 hj with h1 | rfl; exact hi1 j h1; exact hfar, by rw [unL_succ, hX]⟩
      · intro r S hI
        obtain ⟨a4, c4, hi0, hi1, rfl⟩ := hI
        refine q_block_n (q_then_n ?_); refine tc_seq ?_; refine tc_seq ?_
        have hW := unL_w hi1
        have hlk := unL_len (sbys s) M
        have hany : (List.range M).any (fun k => farA ((sbys s).drop (16 * k))) = false := by rw [List.any_eq_false]; intro j hj; rw [hi1 j (List.mem_range.1 hj)]; decide
        refine tc_reg ?_; refine tl_v rfl (by first | exact o_load p22 rfl (by repeat (first | with_reducible exact has_here | with_reducible exact has_pt | apply has_left)) rfl | exact o_loadC p22 rfl (by assumption)) ?_; refine tl_c rfl (o_call bd27 rfl (Pack_c (l := unL (sbys s) M) (hm := hlk) (hs := by omega))) ?_; rintro _ _ ⟨rfl, rfl⟩; refine tlm ?_; refine tl_v rfl (o_extract rfl rfl) ?_; refine tl_v rfl (o_extract rfl rfl) ?_; refine tla ?_; refine tla ?_; refine tl_nil ?_; refine q_then_n ?_; refine tc_seq ?_; refine tc_reg ?_; refine tlm ?_; refine tl_v rfl (o_nei rfl rfl) ?_; refine tlm ?_; refine tl_bool (d := 54) rfl (fun h => ?_) (fun h => ?_)
        · have hne2 : ¬ ((packS (unL (sbys s) M)).2 = 0 ∧ (packS (unL (sbys s) M)).1.toList = s.toList) := fun hc => by first | (simp [hc.1] at h; done) | (simp at h; omega)
          refine tl_skip rfl ?_; refine tl_skip rfl ?_; refine tl_skip rfl ?_; refine tl_v rfl (o_pick_t rfl (by conv => lhs; whnf)) ?_; refine tl_nil ?_; refine q_then_n ?_; refine tc_cond_t rfl ?_; refine tc_seq ?_; refine tc_reg ?_; refine tl_u rfl (o_stU rfl (by repeat (first | with_reducible exact upd_here | with_reducible exact upd_pt | apply upd_left)) sz22 rfl rfl (by first | decide | simp | omega) rfl) ?_; refine tl_u rfl (o_stU rfl (by repeat (first | with_reducible exact upd_here | with_reducible exact upd_pt | apply upd_left)) sz26 rfl rfl (by first | decide | simp | omega) rfl) ?_; refine tl_nil ?_; refine q_then_n ?_; refine tc_ret ?_; refine q_then_r ?_
          have e0 : unpS s = ([], 190) := by unfold unpS; rw [if_neg (by omega), hM, if_neg (by rw [hany]; decide), if_neg hne2]
          rw [e0]
          exact ⟨[r], _, rfl, fun _ _ h => mk1 h, .tuple #[.slice none 0 0, .int .i64 190], A * Sl 3 (.slice none 0 0) 0 [], resA2 rfl (rv_cell1 p22 rfl (by repeat (first | with_reducible exact has_here | with_reducible exact has_pt | apply has_left)) rfl) (rv_cell1 p26 rfl (by repeat (first | with_reducible exact has_here | with_reducible exact has_pt | apply has_left)) rfl), fun _ _ h => sl_nil (Dr.sat (by repeat (first | with_reducible exact dr_refl | apply dr_keep | apply dr_drop)) _ _ h), none, 0, rfl, Nat.le_refl _, rfl⟩
        · have he2 : (packS (unL (sbys s) M)).2 = 0 := by first | omega | (simp at h; omega)
          refine tlm ?_; refine tlm ?_; refine tl_v rfl (o_nestr rfl rfl) ?_; refine tl_v rfl (o_pick_f rfl (by conv => lhs; whnf)) ?_; refine tl_nil ?_; refine q_then_n ?_; refine tc_cond rfl (fun h => ?_) (fun h => ?_)
          · have hne2 : ¬ ((packS (unL (sbys s) M)).2 = 0 ∧ (packS (unL (sbys s) M)).1.toList = s.toList) := by first | assumption | exact fun hc => by (first | exact absurd hc.2 (of_decide_eq_true h) | (simp [hc.2] at h; done))
            refine tc_seq ?_; refine tc_reg ?_; refine tl_u rfl (o_stU rfl (by repeat (first | with_reducible exact upd_here | with_reducible exact upd_pt | apply upd_left)) sz22 rfl rfl (by first | decide | simp | omega) rfl) ?_; refine tl_u rfl (o_stU rfl (by repeat (first | with_reducible exact upd_here | with_reducible exact upd_pt | apply upd_left)) sz26 rfl rfl (by first | decide | simp | omega) rfl) ?_; refine tl_nil ?_; refine q_then_n ?_; refine tc_ret ?_; refine q_then_r ?_
            have e0 : unpS s = ([], 190) := by unfold unpS; rw [if_neg (by omega), hM, if_neg (by rw [hany]; decide), if_neg hne2]
            rw [e0]
            exact ⟨[r], _, rfl, fun _ _ h => mk1 h, .tuple #[.slice none 0 0, .int .i64 190], A * Sl 3 (.slice none 0 0) 0 [], resA2 rfl (rv_cell1 p22 rfl (by repeat (first | with_reducible exact has_here | with_reducible exact has_pt | apply has_left)) rfl) (rv_cell1 p26 rfl (by repeat (first | with_reducible exact has_here | with_reducible exact has_pt | apply has_left)) rfl), fun _ _ h => sl_nil (Dr.sat (by repeat (first | with_reducible exact dr_refl | apply dr_keep | apply dr_drop)) _ _ h), none, 0, rfl, Nat.le_refl _, rfl⟩
          · have he3 : (packS (unL (sbys s) M)).1.toList = s.toList := by simpa using h
            refine tc_skip ?_; refine q_then_n ?_; refine tc_seq ?_; refine tc_reg ?_; refine tl_v rfl (by first | exact o_load p22 rfl (by repeat (first | with_reducible exact has_here | with_reducible exact has_pt | apply has_left)) rfl | exact o_loadC p22 rfl (by assumption)) ?_; refine tl_u rfl (o_stU rfl (by repeat (first | with_reducible exact upd_here | with_reducible exact upd_pt | apply upd_left)) sz22 rfl rfl (by first | decide | simp | omega) rfl) ?_; refine tl_u rfl (o_stU rfl (by repeat (first | with_reducible exact upd_here | with_reducible exact upd_pt | apply upd_left)) sz26 rfl rfl (by first | decide | simp | omega) rfl) ?_; refine tl_nil ?_; refine q_then_n ?_; refine tc_ret ?_
            have hun : unpS s = (unL (sbys s) M, 0) := by unfold unpS; rw [if_neg (by omega), hM, if_neg (by rw [hany]; decide), if_pos ⟨he2, he3⟩]
            rw [hun]
            exact ⟨[r], _, rfl, fun _ _ h => mk1 h, .tuple #[.slice a4 M c4, .int .i64 0], A * Sl 3 (.slice a4 M c4) M (mcs (unL (sbys s) M)), resA2 rfl (rv_cell1 p22 rfl (by repeat (first | with_reducible exact has_here | with_reducible exact has_pt | apply has_left)) rfl) (rv_cell1 p26 rfl (by repeat (first | with_reducible exact has_here | with_reducible exact has_pt | apply has_left)) rfl), Dr.sat (by repeat (first | with_reducible exact dr_refl | apply dr_keep | apply dr_drop)), a4, c4, by rw [hlk], by rw [hlk]; omega, by rw [hlk]⟩
      · intro r j S hX
        obtain ⟨k, a4, c4, rfl, hx0, rfl⟩ := hX
        refine jmp_r ?_; refine q_block_r (q_then_r ?_)
        rw [hx0]
        exact ⟨[r], _, rfl, fun _ _ h => mk1 h, .tuple #[.slice none 0 0, .int .i64 190], A * Sl 3 (.slice none 0 0) 0 [], resA2 rfl (rv_cell1 p22 rfl (by repeat (first | with_reducible exact has_here | with_reducible exact has_pt | apply has_left)) rfl) (rv_cell1 p26 rfl (by repeat (first | with_reducible exact has_here | with_reducible exact has_pt | apply has_left)) rfl), fun _ _ h => sl_nil (Dr.sat (by repeat (first | with_reducible exact dr_refl | apply dr_keep | apply dr_drop)) _ _ h), none, 0, rfl, Nat.le_refl _, rfl⟩
end Rg
end Go.Vl

set_option linter.unusedVariables false
set_option linter.unusedSimpArgs false
namespace Go.Vl
open Go Go.Proofs
theorem Unpackw {A : SP} {s : ByteArray} {X : List Mk} {er : Int} (hX : unpS s = (X, er)) : Fn Try.prog 30 #[.string s] A (fun r B => ∃ a2 c2, r = .tuple #[.slice a2 X.length c2, .int .i64 er] ∧ X.length ≤ c2 ∧ B = A * Sl 3 (.slice a2 X.length c2) X.length (mcs X)) := by
  have h := Rg.Unpack_c (A := A) (s := s)
  rw [hX] at h
  exact h
theorem rUnpackw {A : SP} {s : ByteArray} {X : List Mk} {er : Int} (hX : unpS s = (X, er)) : Fn Try.prog 31 #[.string s] A (fun r B => ∃ a2 c2, r = .tuple #[.slice a2 X.length c2, .int .i64 er] ∧ X.length ≤ c2 ∧ B = A * Sl 3 (.slice a2 X.length c2) X.length (mcs X)) := by
  have h := rUnpack_c (A := A) (s := s)
  rw [hX] at h
  exact h
theorem unp_le {s : ByteArray} {X : List Mk} {er : Int} (h : unpS s = (X, er)) : X.length ≤ 32 := by
  have h1 : (unpS s).1.length ≤ 32 := by
    unfold unpS
    repeat' split
    all_goals simp [unL_len]
    all_goals omega
  rw [h] at h1; exact h1
attribute [local irreducible] Sl pt ro SlB
set_option maxRecDepth 20000 in
set_option maxHeartbeats 2000000 in
theorem MarksPacks_f (F : SP) {a : Option Addr} {c n : Nat} {l : List Mk} (hr : Rs F a (mcs l)) (hm : l.length = n) (hn : n ≤ 5864062014640) {s : ByteArray} (hW : ∀ x ∈ l, MkW x) :
    Fn Try.prog 8 #[.slice a n c, .string s] (F) (fun r B => r = .bool true ∧ B = F) := by
  refine fn_enterW (args := [.slice a n c, .string s]) Try.func8 rfl Try.ntmps8 (by simp) ?_
  obtain ⟨X, er, hX⟩ : ∃ X er, unpS s = (X, er) := ⟨_, _, rfl⟩
  have hXl := unp_le hX
  refine sr ?_; refine tla ?_; refine nq ?_; refine sr ?_; refine tlm ?_; refine tl_c rfl (o_call bd11 rfl (spare_c (l := l))) ?_; rintro _ _ ⟨a15, c15, rfl, hc15, rfl⟩; refine tla ?_; refine nq ?_; refine sr ?_; refine tlm ?_; refine tl_c rfl (o_call bd27 rfl (Pack_c (l := l) (hr := rs_room (by repeat (first | with_reducible exact rs_sl | assumption | apply Rs.left)) hm))) ?_; rintro _ _ ⟨rfl, rfl⟩; refine tlm ?_; refine tv (o_extract rfl rfl) ?_; refine tv (o_extract rfl rfl) ?_; refine tla ?_; refine tla ?_; refine nq ?_; refine sr ?_; refine tlm ?_; refine tl_c rfl (o_call bd28 rfl (rPack_c (l := l))) ?_; rintro _ _ ⟨rfl, rfl⟩; refine tlm ?_; refine tv (o_extract rfl rfl) ?_; refine tv (o_extract rfl rfl) ?_; refine tla ?_; refine tla ?_; refine nq ?_; refine tc_seq ?_; refine sr ?_; refine tlm ?_; refine tlm ?_; refine tv (o_nestr rfl rfl) ?_; refine tlm ?_; refine tl_bool (d := 29) rfl (fun h => ?_) (fun h => ?_)
  · exfalso; simp at h
  · try simp only [lv1, lv2, lv3, lv4, lv5, lv6, Bool.not_true, Bool.not_false] at h
    refine tlm ?_; refine tlm ?_; refine tv (o_nei rfl rfl) ?_; refine tv (o_pick_f rfl (by conv => lhs; whnf)) ?_; refine tlm ?_; refine tl_bool (d := 34) rfl (fun h => ?_) (fun h => ?_)
    · exfalso; simp at h
    · try simp only [lv1, lv2, lv3, lv4, lv5, lv6, Bool.not_true, Bool.not_false] at h
      refine tlm ?_; refine tlm ?_; refine tl_c rfl (o_call bd29 rfl (kept_c (l := l))) ?_; rintro _ _ ⟨rfl, rfl⟩; refine tv (o_not rfl) ?_; refine tv (o_pick_f rfl (by conv => lhs; whnf)) ?_; refine nq ?_; refine tc_cond rfl (fun h => ?_) (fun h => ?_)
      · exfalso; simp at h
      · try simp only [lv1, lv2, lv3, lv4, lv5, lv6, Bool.not_true, Bool.not_false] at h
        refine tc_skip ?_; refine q_then_n ?_; refine sr ?_; refine tlm ?_; refine tl_c rfl (o_call bd30 rfl (Unpackw (s := s) hX)) ?_; rintro _ _ ⟨a42, c42, rfl, hc42, rfl⟩; refine tlm ?_; refine tv (o_extract rfl rfl) ?_; refine tv (o_extract rfl rfl) ?_; refine tla ?_; refine tla ?_; refine nq ?_; refine sr ?_; refine tlm ?_; refine tl_c rfl (o_call bd30 rfl (Unpackw (s := s) hX)) ?_; rintro _ _ ⟨a47, c47, rfl, hc47, rfl⟩; refine tlm ?_; refine tv (o_extract rfl rfl) ?_; refine tv (o_extract rfl rfl) ?_; refine tla ?_; refine tla ?_; refine nq ?_; refine sr ?_; refine tlm ?_; refine tl_c rfl (o_call bd31 rfl (rUnpackw (s := s) hX)) ?_; rintro _ _ ⟨a52, c52, rfl, hc52, rfl⟩; refine tlm ?_; refine tv (o_extract rfl rfl) ?_; refine tv (o_extract rfl rfl) ?_; refine tla ?_; refine tla ?_; refine nq ?_; refine sr ?_; refine tlm ?_; refine tlm ?_; refine tv (o_eqi rfl rfl) ?_; refine tlm ?_; refine tl_bool (d := 58) rfl (fun h => ?_) (fun h => ?_)
        · try simp only [lv1, lv2, lv3, lv4, lv5, lv6, Bool.not_true, Bool.not_false] at h
          refine tlm ?_; refine tlm ?_; refine tlm ?_; refine tlm ?_; refine tlm ?_; refine tl_c rfl (o_call bd14 rfl (Fn.pre (twice_f (F * Sl 3 (.slice a15 (n + 40) c15) (n + 40) (mcs (l ++ rm40 40)) * Sl 3 (.slice a47 (X.length) c47) (X.length) (mcs (X)) * Sl 3 (.slice a52 (X.length) c52) (X.length) (mcs (X))) (ab := a47) (aw := a52) (ai := a15) (l := l) (X := X) (by repeat (first | with_reducible exact rs_sl | assumption | apply Rs.left)) (by repeat (first | with_reducible exact rs_sl | assumption | apply Rs.left)) (by repeat (first | with_reducible exact rs_sl | assumption | apply Rs.left)) (by repeat (first | with_reducible exact rs_sl | assumption | apply Rs.left)) hm (by first | assumption | rfl | omega | (rw [srt_length cPl_swo]; exact hm)) (by omega) (by omega) (by omega)) (fun g w h => h.perm (by ac_rfl)))) ?_; rintro _ _ ⟨rfl, rfl⟩; refine tv (o_pick_t rfl (by conv => lhs; whnf)) ?_; refine tlm ?_; refine tv (by first | exact o_pick_t rfl (by conv => lhs; whnf) | exact o_pick_f rfl (by conv => lhs; whnf) | exact o_pick rfl rfl) ?_; refine tlm ?_; refine tl_bool (d := 68) rfl (fun h => ?_) (fun h => ?_)
          · try simp only [lv1, lv2, lv3, lv4, lv5, lv6, Bool.not_true, Bool.not_false] at h
            refine tl_c rfl (o_call bd15 rfl (worksM_c)) ?_; rintro _ _ ⟨rfl, rfl⟩; refine tv (o_pick_t rfl (by conv => lhs; whnf)) ?_; refine tla ?_; refine nq ?_; refine tc_ret ?_; exact ⟨.bool true, F, res1 rfl rfl, Dr.sat (by repeat (first | with_reducible exact dr_refl | apply dr_keep | apply dr_drop)), rfl, rfl⟩
          · exfalso; simp at h
        · exfalso; simp at h
end Go.Vl

set_option linter.unusedVariables false
set_option linter.unusedSimpArgs false
namespace Go.Vl
open Go Go.Proofs
def idC (v : Nat) (l : List Mk) : Nat := l.countP fun x => decide (x.id = v)
theorem eqv_id (a x : Mk) : eqv (ltc cId) a x = decide (x.id = a.id) := by
  unfold eqv; rw [cId_neg, cId_neg, Bool.eq_iff_iff]; simp; omega
theorem flt_id (v : Nat) (l : List Mk) : l.filter (eqv (ltc cId) ⟨v, 0, 0⟩) = l.filter fun x => decide (x.id = v) := by
  congr 1; funext x; exact eqv_id _ x
theorem idC_srt (v : Nat) (l : List Mk) : idC v (srt (ltc cId) l) = idC v l := by
  have h := (srt_ss cId_swo l).eq ⟨v, 0, 0⟩
  rw [flt_id, flt_id] at h
  unfold idC
  rw [List.countP_eq_length_filter, List.countP_eq_length_filter, h]
theorem idC_count (v : Nat) (l : List Mk) : (l.map Mk.id).count v = idC v l := by
  unfold idC; rw [List.count, List.countP_map]; congr 1
theorem nod_iff {l : List Mk} : (l.map Mk.id).Nodup ↔ ∀ v, idC v l ≤ 1 := by
  rw [List.nodup_iff_count]
  exact ⟨fun h v => by rw [← idC_count]; exact h v, fun h v => by rw [idC_count]; exact h v⟩
theorem nod_srt {l : List Mk} (h : (l.map Mk.id).Nodup) : ((srt (ltc cId) l).map Mk.id).Nodup := nod_iff.2 fun v => by rw [idC_srt]; exact nod_iff.1 h v
theorem idC_mem {l : List Mk} {v : Nat} (h : ∀ x ∈ l, x.id ≠ v) : idC v l = 0 := by
  unfold idC; rw [List.countP_eq_zero]; intro x hx; simpa using h x hx
theorem idC_out (v w : Nat) (l : List Mk) : idC v (outM w l) ≤ idC v l := by
  unfold outM idC; exact (List.filter_sublist).countP_le
theorem out_len (v : Nat) (l : List Mk) : (outM v l).length + idC v l = l.length := by
  unfold outM idC
  rw [← List.countP_eq_length_filter, Nat.add_comm, List.length_eq_countP_add_countP (p := fun x : Mk => decide (x.id = v))]
  congr 1
  congr 1; funext x; simp
theorem out_mem {v : Nat} {l : List Mk} {x : Mk} : x ∈ outM v l ↔ x ∈ l ∧ x.id ≠ v := by
  unfold outM; rw [List.mem_filter]; simp
theorem idC_out0 (v : Nat) (l : List Mk) : idC v (outM v l) = 0 := idC_mem fun _ hx => (out_mem.1 hx).2
/-- Marks in order. -/
structure Asc (A : List Mk) : Prop where
  len : A.length ≤ 32
  ok : ∀ x ∈ A, okM x = true
  nod : (A.map Mk.id).Nodup
  sd : Sd (ltc cId) A
  w : ∀ x ∈ A, MkW x
theorem Asc.may {A : List Mk} (h : Asc A) : mayS A = 0 := may_ok h.len (List.all_eq_true.2 h.ok) h.nod
theorem Asc.srt {A : List Mk} (h : Asc A) : srt (ltc cId) A = A := (srt_of cId_swo ⟨h.sd, fun _ => rfl⟩).symm
theorem Asc.may_rev {A : List Mk} (h : Asc A) : mayS A.reverse = 0 := by
  refine may_ok (by rw [List.length_reverse]; exact h.len) (List.all_eq_true.2 fun x hx => h.ok x (List.mem_reverse.1 hx)) ?_
  rw [List.map_reverse]
  exact List.nodup_iff_pairwise_ne.2 (List.pairwise_reverse.2 ((List.nodup_iff_pairwise_ne.1 h.nod).imp fun h => Ne.symm h))
theorem Asc.w_rev {A : List Mk} (h : Asc A) : ∀ x ∈ A.reverse, MkW x := fun x hx => h.w x (List.mem_reverse.1 hx)
theorem Asc.out {A : List Mk} (h : Asc A) {v : Nat} (hv : idC v A = 1) : ∃ C, unsetS A.reverse v = (C, 0) ∧ C.length + 1 = A.length ∧ (∀ x ∈ C, MkW x) ∧ ∃ D, unsetS C v = (D, 190) := by
  have hr : idC v A.reverse = 1 := by unfold idC at hv ⊢; rw [List.countP_reverse]; exact hv
  have ho := out_len v A.reverse
  rw [List.length_reverse] at ho
  refine ⟨Vl.srt (ltc cId) (outM v A.reverse), ?_, ?_, fun x hx => h.w_rev x (out_mem.1 ((srt_mem cId_swo).1 hx)).1, [], ?_⟩
  · unfold unsetS; rw [h.may_rev, if_neg (by decide), if_neg (by rw [List.length_reverse]; omega)]
  · rw [srt_length cId_swo]; omega
  · have hm : mayS (Vl.srt (ltc cId) (outM v A.reverse)) = 0 := by
      have hl := h.len
      refine may_ok (by rw [srt_length cId_swo]; omega) (List.all_eq_true.2 fun x hx => h.ok x (List.mem_reverse.1 (out_mem.1 ((srt_mem cId_swo).1 hx)).1)) (nod_srt (nod_iff.2 fun w => Nat.le_trans (idC_out w v _) ?_)); exact nod_iff.1 (by have := h.may_rev; exact (may_zero this).2.2) w
    have h0 : idC v (Vl.srt (ltc cId) (outM v A.reverse)) = 0 := by rw [idC_srt]; exact idC_out0 v _
    have h1 := out_len v (Vl.srt (ltc cId) (outM v A.reverse))
    unfold unsetS; rw [hm, if_neg (by decide), if_pos (by omega)]
def kpM (m : Mk) : Mk := ⟨m.id, smS m.at_, m.gr % 2⟩
end Go.Vl

set_option linter.unusedVariables false
set_option linter.unusedSimpArgs false
namespace Go.Vl
open Go Go.Proofs
theorem sl_of_pt {k b n : Nat} {xs : List Value} {E : TypeId} {R : SP} {g : Gh} {w : World} (hl : xs.length = n * k) (hs : sat g w (R * pt b (cl xs E))) : sat g w (R * Sl k (.slice (some ⟨b, 0, none⟩) n n) n xs) :=
  sl_iff.2 ⟨hl, .inr ⟨b, 0, n, xs, E, rfl, Nat.le_refl _, by omega, by rw [List.drop_zero, List.take_of_length_le (by omega)], hs⟩⟩
theorem o_apF {P : Program} {n : Nat} {ρ : Env} {A : SP} {dst : Option Tmp} {ty : TypeId} {pos : String} {after : Array Edge} {gd : Option (Nat × Bool)} {t t' e e' : TypeId} {x y : Operand} {z : Value} {m k q bytes c : Nat} {a a2 : Option Addr} {xs ys zs : List Value} {R : SP} {C : SP → SP}
    (hu : P.underlying t = some (.slice e)) (hu' : P.underlying t' = some (.slice e')) (hk : szE P e = some k) (hb : bytesE P e = some bytes) (hz : zeroE P e = some z) (hzk : z.cells.size = k) (hk0 : 0 < k) (hb0 : 0 < bytes)
    (hx : ev n ρ x = .slice a q q) (hy : ev n ρ y = .slice a2 m c) (hf : Ct A (Sl k (.slice a q q) q xs) R C) (hr : Rs A a2 ys) (hm : ys.length = m * k) (hm0 : 0 < m) (ho : ys.all oneC = true) (hlim : (q + m) * bytes ≤ 140737488355328) (he : xs ++ ys = zs) :
    OpX P n ρ A ⟨dst, .call { callee := .builtin .append, args := #[x, y], argTypes := #[t, t'] }, ty, pos, after, gd⟩ (fun v' B => ∃ a' c', v' = .slice a' (q + m) c' ∧ q + m ≤ c' ∧ B = A * Sl k (.slice a' (q + m) c') (q + m) zs) := fun g w hs => by
  subst he
  have hr' := hr.rd hs
  obtain ⟨rfl, hC⟩ := hf
  obtain ⟨v', w', B, hr, hB, h | rfl⟩ := o_appendG (dst := dst) (ty := ty) (pos := pos) (after := after) (gd := gd) hu hu' hk hb hz hzk hk0 hb0 hx hy rfl hr' hm (fun u hu => List.all_eq_true.1 ho u hu) hlim g w hs
  · obtain ⟨a', c', h1, _, h3, _⟩ := h
    simp only [Value.slice.injEq] at h1
    omega
  · obtain ⟨a', c', rfl, h1, _⟩ := sl_have hB
    exact ⟨_, w', _, hr, hB, a', c', rfl, h1, rfl⟩
def ecs (l : List Ed) : List Value := l.flatMap Ed.cells
theorem ecs_at {l : List Ed} {j : Nat} (h : j < l.length) : ((ecs l).drop (j * 3)).take 3 = l[j].cells := fm_at (f := Ed.cells) (fun _ _ => rfl) h
def klM : List Mk := [⟨1, 2, 0⟩, ⟨2, 3, 0⟩, ⟨3, 3, 1⟩, ⟨4, 4, 0⟩, ⟨5, 9, 0⟩]
def keM : List Ed := [⟨0, 0, 0⟩, ⟨3, 0, 2⟩, ⟨3, 4, 1⟩, ⟨-1, 0, 0⟩, ⟨0, -1, 0⟩, ⟨0, 0, -1⟩, ⟨9223372036854775807, 1, 0⟩, ⟨1, 0, 9223372036854775807⟩, ⟨9223372036854775807, 0, 0⟩, ⟨0, 0, 9223372036854775807⟩, ⟨0, 9223372036854775807, 0⟩, ⟨0, 0, 9223372036854775807 - 9⟩, ⟨0, 0, 9223372036854775807 - 8⟩]
def oddM : List Mk := [⟨0, -1, 0⟩, ⟨0, 0, 2⟩, ⟨5, 9223372036854775807, 1⟩]
def mk2M : List Mk := [⟨0, 9223372036854775807, 0⟩, ⟨1, 9223372036854775807, 1⟩]
def mk1M : List Mk := [⟨0, -1, 0⟩]
instance mkwDec (m : Mk) : Decidable (m.id < 4294967296 ∧ (-9223372036854775808 ≤ m.at_ ∧ m.at_ ≤ 9223372036854775807) ∧ m.gr < 256) := inferInstance
theorem mkw_of {l : List Mk} (h : l.all (fun m => decide (m.id < 4294967296 ∧ (-9223372036854775808 ≤ m.at_ ∧ m.at_ ≤ 9223372036854775807) ∧ m.gr < 256)) = true) : ∀ x ∈ l, MkW x := fun x hx => by
  have := of_decide_eq_true (List.all_eq_true.1 h x hx); exact ⟨this.1, this.2.1, this.2.2⟩
theorem kl_w : ∀ x ∈ klM, MkW x := mkw_of (by decide)
theorem odd_w : ∀ x ∈ oddM, MkW x := mkw_of (by decide)
theorem mk2_w : ∀ x ∈ mk2M, MkW x := mkw_of (by decide)
theorem mk1_w : ∀ x ∈ mk1M, MkW x := mkw_of (by decide)
theorem ke_w : ∀ x ∈ keM, EdW x := fun x hx => by
  have h : keM.all (fun m => decide ((-9223372036854775808 ≤ m.at_ ∧ m.at_ ≤ 9223372036854775807) ∧ (-9223372036854775808 ≤ m.out ∧ m.out ≤ 9223372036854775807) ∧ (-9223372036854775808 ≤ m.inn ∧ m.inn ≤ 9223372036854775807))) = true := by decide
  have := of_decide_eq_true (List.all_eq_true.1 h x hx); exact ⟨this.1, this.2.1, this.2.2⟩
def manyM (i : Nat) : Mk := ⟨70 - i, (i % 3 : Nat), i % 2⟩
def many (n : Nat) : List Mk := (List.range n).map manyM
theorem many_succ (i : Nat) : many (i + 1) = many i ++ [manyM i] := by unfold many; rw [List.range_succ, List.map_append]; rfl
theorem many_len (i : Nat) : (many i).length = i := by unfold many; simp
theorem many_w (i : Nat) : ∀ x ∈ many i, MkW x := fun x hx => by
  obtain ⟨j, _, rfl⟩ := List.mem_map.1 hx
  exact ⟨by show 70 - j < _; omega, ⟨by show _ ≤ ((j % 3 : Nat) : Int); omega, by show ((j % 3 : Nat) : Int) ≤ _; omega⟩, by show j % 2 < 256; omega⟩
theorem rs_many {A : SP} {a : Option Addr} {j : Nat} (h : Rs A a (mcs (many 33))) (hj : j ≤ 33) : Rs A a (mcs (many j)) := by
  have h2 := h.sub (j * 3)
  rwa [mcs_take, show (many 33).take j = many j by unfold many; rw [← List.map_take, List.take_range, Nat.min_eq_left hj]] at h2
theorem rs_odd {A : SP} {b i : Nat} {l : List Mk} {x : Mk} (h : Rs A (some ⟨b, 0, none⟩) (mcs l)) (hi : i < l.length) (hx : l[i] = x) : Rs A (some ⟨b, i * 3, none⟩) (mcs [x]) := by
  have h2 := (rs_off (k := i * 3) h).sub 3
  rwa [mcs_at hi, hx] at h2
theorem checkN : checkS [] (-1) = 0 := by simp [checkS, mayS]
attribute [local irreducible] Sl pt ro SlB
set_option maxRecDepth 20000 in
set_option maxHeartbeats 4000000 in
theorem MarksKnown_f (F : SP) :
    Fn Try.prog 10 #[] (F) (fun r B => r = .bool true ∧ B = F) := by
  refine fn_enterW (args := []) Try.func10 rfl Try.ntmps10 (by simp) ?_; refine sr ?_; refine tla ?_; refine nq ?_; refine sr ?_; refine tla ?_; refine nq ?_; refine sr ?_; refine tv (o_bS (l := [_, _, _]) (pv_cons (by conv => lhs; whnf) (pv_cons (by conv => lhs; whnf) pv_nil)) Try.underlying35 z35 (pl35 Try.underlying35) rfl) ?_; refine tv (o_bS (l := [_, _, _]) (pv_cons (by conv => lhs; whnf) (pv_cons (by conv => lhs; whnf) pv_nil)) Try.underlying35 z35 (pl35 Try.underlying35) rfl) ?_; refine tv (o_bS (l := [_, _, _]) (pv_cons (by conv => lhs; whnf) (pv_cons (by conv => lhs; whnf) (pv_cons (by conv => lhs; whnf) pv_nil))) Try.underlying35 z35 (pl35 Try.underlying35) rfl) ?_; refine tv (o_bS (l := [_, _, _]) (pv_cons (by conv => lhs; whnf) (pv_cons (by conv => lhs; whnf) pv_nil)) Try.underlying35 z35 (pl35 Try.underlying35) rfl) ?_; refine tv (o_bS (l := [_, _, _]) (pv_cons (by conv => lhs; whnf) (pv_cons (by conv => lhs; whnf) pv_nil)) Try.underlying35 z35 (pl35 Try.underlying35) rfl) ?_; refine tl_x rfl (o_buildSliceL (k := 3) (vs := (klM).map fun m => .agg m.cells.toArray) (l := mcs klM) Try.underlying22 sz35 z35 rfl rfl (by decide) (by decide) (by intro v hv; obtain ⟨m, _, rfl⟩ := List.mem_map.1 hv; rfl) rfl) ?_; rintro _ _ ⟨b15, rfl, rfl⟩; refine tla ?_; refine nq ?_; refine sr ?_; refine tv (o_bS (l := [_, _, _]) pv_nil Try.underlying24 z24 (pl24 Try.underlying24) rfl) ?_
  refine tv (o_bS (l := [_, _, _]) (pv_cons (by conv => lhs; whnf) (pv_cons (by conv => lhs; whnf) pv_nil)) Try.underlying24 z24 (pl24 Try.underlying24) rfl) ?_; refine tv (o_bS (l := [_, _, _]) (pv_cons (by conv => lhs; whnf) (pv_cons (by conv => lhs; whnf) (pv_cons (by conv => lhs; whnf) pv_nil))) Try.underlying24 z24 (pl24 Try.underlying24) rfl) ?_; refine tv (o_bS (l := [_, _, _]) (pv_cons (by conv => lhs; whnf) pv_nil) Try.underlying24 z24 (pl24 Try.underlying24) rfl) ?_; refine tv (o_bS (l := [_, _, _]) (pv_cons (by conv => lhs; whnf) pv_nil) Try.underlying24 z24 (pl24 Try.underlying24) rfl) ?_; refine tv (o_bS (l := [_, _, _]) (pv_cons (by conv => lhs; whnf) pv_nil) Try.underlying24 z24 (pl24 Try.underlying24) rfl) ?_; refine tlm ?_; refine tv (o_bS (l := [_, _, _]) (pv_cons (by conv => lhs; whnf) (pv_cons (by conv => lhs; whnf) pv_nil)) Try.underlying24 z24 (pl24 Try.underlying24) rfl) ?_; refine tlm ?_; refine tv (o_bS (l := [_, _, _]) (pv_cons (by conv => lhs; whnf) (pv_cons (by conv => lhs; whnf) pv_nil)) Try.underlying24 z24 (pl24 Try.underlying24) rfl) ?_; refine tlm ?_; refine tv (o_bS (l := [_, _, _]) (pv_cons (by conv => lhs; whnf) pv_nil) Try.underlying24 z24 (pl24 Try.underlying24) rfl) ?_; refine tlm ?_; refine tv (o_bS (l := [_, _, _]) (pv_cons (by conv => lhs; whnf) pv_nil) Try.underlying24 z24 (pl24 Try.underlying24) rfl) ?_; refine tlm ?_; refine tv (o_bS (l := [_, _, _]) (pv_cons (by conv => lhs; whnf) pv_nil) Try.underlying24 z24 (pl24 Try.underlying24) rfl) ?_
  refine tlm ?_; refine tv (by first | exact o_subI rfl rfl (by omega) | exact o_sub rfl rfl) ?_; refine tv (o_bS (l := [_, _, _]) (pv_cons (by conv => lhs; whnf) pv_nil) Try.underlying24 z24 (pl24 Try.underlying24) rfl) ?_; refine tlm ?_; refine tv (by first | exact o_subI rfl rfl (by omega) | exact o_sub rfl rfl) ?_; refine tv (o_bS (l := [_, _, _]) (pv_cons (by conv => lhs; whnf) pv_nil) Try.underlying24 z24 (pl24 Try.underlying24) rfl) ?_; refine tl_x rfl (o_buildSliceL (k := 3) (vs := (keM).map fun m => .agg m.cells.toArray) (l := ecs keM) Try.underlying49 sz24 z24 rfl rfl (by decide) (by decide) (by intro v hv; obtain ⟨m, _, rfl⟩ := List.mem_map.1 hv; rfl) rfl) ?_; rintro _ _ ⟨b38, rfl, rfl⟩; refine tla ?_; refine nq ?_; refine tc_seq ?_; refine tc_seq ?_; refine tc_pre (A' := F * Sl 3 (.slice (some ⟨b15, 0, none⟩) 5 5) 5 (mcs klM) * pt b38 (cl (ecs keM) 24)) (fun g w h => (sl_of_pt (b := b15) (xs := mcs klM) (E := 35) (n := 5) rfl (R := F * pt b38 (cl (ecs keM) 24)) (h.perm (by ac_rfl))).perm (by ac_rfl)) ?_; refine tc_reg ?_; refine tla ?_; refine nq ?_; refine tc_block ?_; refine tc_loop (fun kk ρ BB => ∃ (i : Nat), (i ≤ 13) ∧ kk = 13 - i ∧ ρ 4 = .int .i64 (i : Nat) ∧ ρ 1 = .int .i64 9223372036854775807 ∧ ρ 2 = .slice (some ⟨b15, 0, none⟩) 5 5 ∧ ρ 3 = .slice (some ⟨b38, 0, none⟩) 13 13 ∧ Dr BB (F * Sl 3 (.slice (some ⟨b15, 0, none⟩) 5 5) 5 (mcs klM) * pt b38 (cl (ecs keM) 24))) (m := 13 - (0)) ?_ ?_
  · exact ⟨0, by omega, rfl, rfl, rfl, rfl, rfl, (by repeat (first | with_reducible exact dr_refl | apply dr_keep | apply dr_drop))⟩
  · intro k ρ B hI
    obtain ⟨i, hp0, hkk1, hE4, hE1, hE2, hE3, hBA⟩ := hI
    refine tc_pre hBA.sat ?_
    clear hBA
    refine tc_env (d := 4) hE4 ?_; refine tc_env (d := 1) hE1 ?_; refine tc_env (d := 2) hE2 ?_; refine tc_env (d := 3) hE3 ?_
    clear hE4 hE1 hE2 hE3
    refine tc_seq ?_; refine sr ?_; refine tlm ?_; refine tlm ?_; refine tv (o_len Try.underlying49 rfl) ?_; refine tv (o_lss rfl rfl) ?_; refine nq ?_; refine tc_cond rfl (fun h => ?_) (fun h => ?_)
    · have hi : i < keM.length := by show i < 13; first | omega | (simp at h; omega)
      obtain ⟨E, hE⟩ : ∃ E, keM[i] = E := ⟨_, rfl⟩
      have hEw : EdW E := ke_w E (hE ▸ List.getElem_mem hi)
      have hi3 : i < 13 := hi
      refine tc_skip ?_; refine q_then_n ?_; refine tc_seq ?_; refine tc_block ?_; refine sr ?_; refine tlm ?_; refine tlm ?_; refine tlm ?_; refine tv (o_ixP (a := some ⟨b38, 0, none⟩) Try.underlying49 sz24 rfl rfl (by omega) nn_some) ?_; refine tv (o_ldPN (a := some ⟨b38, 0, none⟩) (xs := ecs keM) (vs := E.cells) a24 sz24 rfl (by repeat (first | with_reducible exact rs_sl | with_reducible exact rs_pt rfl | apply Rs.left)) (by rw [ecs_at hi, hE]) rfl (by decide)) ?_; refine tl_c rfl (o_call bd3 rfl (MarksShifts_f _ (l := klM) (e := E) (n := 5) (by repeat (first | with_reducible exact rs_sl | with_reducible exact rs_pt rfl | apply Rs.left)) rfl (by decide) kl_w hEw)) ?_; rintro _ _ ⟨rfl, rfl⟩; refine tv (o_not rfl) ?_; refine tlm ?_; refine tl_bool (d := 52) rfl (fun h => ?_) (fun h => ?_)
      · exfalso; simp at h
      · try simp only [lv1, lv2, lv3, lv4, lv5, lv6, Bool.not_true, Bool.not_false] at h
        refine tlm ?_; refine tv (o_bS (l := [_, _, _]) (pv_cons (by conv => lhs; whnf) pv_nil) Try.underlying35 z35 (pl35 Try.underlying35) rfl) ?_; refine tlm ?_; refine tv (o_bS (l := [_, _, _]) (pv_cons (by conv => lhs; whnf) (pv_cons (by conv => lhs; whnf) (pv_cons (by conv => lhs; whnf) pv_nil))) Try.underlying35 z35 (pl35 Try.underlying35) rfl) ?_; refine tl_x rfl (o_buildSliceL (k := 3) (vs := (mk2M).map fun m => .agg m.cells.toArray) (l := mcs mk2M) Try.underlying22 sz35 z35 rfl rfl (by decide) (by decide) (by intro v hv; obtain ⟨m, _, rfl⟩ := List.mem_map.1 hv; rfl) rfl) ?_; rintro _ _ ⟨b57, rfl, rfl⟩; refine tlm ?_; refine tlm ?_; refine tv (o_ixP (a := some ⟨b38, 0, none⟩) Try.underlying49 sz24 rfl rfl (by omega) nn_some) ?_; refine tv (o_ldPN (a := some ⟨b38, 0, none⟩) (xs := ecs keM) (vs := E.cells) a24 sz24 rfl (by repeat (first | with_reducible exact rs_sl | with_reducible exact rs_pt rfl | apply Rs.left)) (by rw [ecs_at hi, hE]) rfl (by decide)) ?_; refine tl_c rfl (o_call bd3 rfl (MarksShifts_f _ (l := mk2M) (e := E) (n := 2) (by repeat (first | with_reducible exact rs_sl | with_reducible exact rs_pt rfl | apply Rs.left)) rfl (by decide) mk2_w hEw)) ?_; rintro _ _ ⟨rfl, rfl⟩; refine tv (o_not rfl) ?_; refine tv (o_pick_f rfl (by conv => lhs; whnf)) ?_; refine tlm ?_; refine tl_bool (d := 65) rfl (fun h => ?_) (fun h => ?_)
        · exfalso; simp at h
        · try simp only [lv1, lv2, lv3, lv4, lv5, lv6, Bool.not_true, Bool.not_false] at h
          refine tv (o_bS (l := [_, _, _]) (pv_cons (by conv => lhs; whnf) pv_nil) Try.underlying35 z35 (pl35 Try.underlying35) rfl) ?_; refine tl_x rfl (o_buildSliceL (k := 3) (vs := (mk1M).map fun m => .agg m.cells.toArray) (l := mcs mk1M) Try.underlying22 sz35 z35 rfl rfl (by decide) (by decide) (by intro v hv; obtain ⟨m, _, rfl⟩ := List.mem_map.1 hv; rfl) rfl) ?_; rintro _ _ ⟨b67, rfl, rfl⟩; refine tlm ?_; refine tlm ?_; refine tv (o_ixP (a := some ⟨b38, 0, none⟩) Try.underlying49 sz24 rfl rfl (by omega) nn_some) ?_; refine tv (o_ldPN (a := some ⟨b38, 0, none⟩) (xs := ecs keM) (vs := E.cells) a24 sz24 rfl (by repeat (first | with_reducible exact rs_sl | with_reducible exact rs_pt rfl | apply Rs.left)) (by rw [ecs_at hi, hE]) rfl (by decide)) ?_; refine tl_c rfl (o_call bd3 rfl (MarksShifts_f _ (l := mk1M) (e := E) (n := 1) (by repeat (first | with_reducible exact rs_sl | with_reducible exact rs_pt rfl | apply Rs.left)) rfl (by decide) mk1_w hEw)) ?_; rintro _ _ ⟨rfl, rfl⟩; refine tv (o_not rfl) ?_; refine tv (o_pick_f rfl (by conv => lhs; whnf)) ?_; refine nq ?_; refine tc_cond rfl (fun h => ?_) (fun h => ?_)
          · exfalso; simp at h
          · try simp only [lv1, lv2, lv3, lv4, lv5, lv6, Bool.not_true, Bool.not_false] at h
            refine tc_skip ?_; refine q_block_n (q_then_n ?_); refine tc_reg ?_; refine tlm ?_; refine tv (by first | exact o_addI rfl rfl (by omega) | exact o_add rfl rfl) ?_; refine tla ?_; refine nq ?_; exact ⟨_, by omega, i + 1, by omega, rfl, rfl, rfl, rfl, rfl, (by repeat (first | with_reducible exact dr_refl | apply dr_keep | apply dr_drop))⟩
    · try simp only [lv1, lv2, lv3, lv4, lv5, lv6, Bool.not_true, Bool.not_false] at h
      refine tc_exit ?_; refine q_then_e (q_then_e (q_block_x (q_then_n ?_))); refine sr ?_; refine tla ?_; refine nq ?_; refine tc_seq ?_; refine sr ?_; refine tla ?_; refine nq ?_; refine tc_block ?_; refine tc_pre (A' := F * Sl 3 (.slice (some ⟨b15, 0, none⟩) 5 5) 5 (mcs klM) * pt b38 (cl (ecs keM) 24) * Sl 3 (.slice none 0 0) 0 (mcs (many 0))) (fun _ _ h => sl_nil h) ?_; refine tc_loop (fun kk ρ BB => ∃ (i : Nat) (a5 : Option Addr) (c5 : Nat), (i ≤ 33) ∧ (i ≤ c5) ∧ kk = 33 - i ∧ ρ 5 = .slice a5 i c5 ∧ ρ 6 = .int .i64 (i : Nat) ∧ ρ 1 = .int .i64 9223372036854775807 ∧ ρ 2 = .slice (some ⟨b15, 0, none⟩) 5 5 ∧ ρ 3 = .slice (some ⟨b38, 0, none⟩) 13 13 ∧ Dr BB (F * Sl 3 (.slice (some ⟨b15, 0, none⟩) 5 5) 5 (mcs klM) * pt b38 (cl (ecs keM) 24) * Sl 3 (.slice a5 i c5) i (mcs (many i)))) (m := 33 - (0)) ?_ ?_
      · exact ⟨0, none, 0, by omega, by omega, rfl, rfl, rfl, rfl, rfl, rfl, (by repeat (first | with_reducible exact dr_refl | apply dr_keep | apply dr_drop))⟩
      · intro k ρ B hI
        obtain ⟨i, a5, c5, hp0, hp1, hkk2, hE5, hE6, hE1, hE2, hE3, hBA⟩ := hI
        refine tc_pre hBA.sat ?_
        clear hBA
        refine tc_env (d := 5) hE5 ?_; refine tc_env (d := 6) hE6 ?_; refine tc_env (d := 1) hE1 ?_; refine tc_env (d := 2) hE2 ?_; refine tc_env (d := 3) hE3 ?_
        clear hE5 hE6 hE1 hE2 hE3
        refine tc_seq ?_; refine sr ?_; refine tlm ?_; refine tv (o_lss rfl rfl) ?_; refine nq ?_; refine tc_cond rfl (fun h => ?_) (fun h => ?_)
        · have hi : i < 33 := by first | omega | (simp at h; omega)
          refine tc_skip ?_; refine q_then_n ?_; refine tc_seq ?_; refine tc_block ?_; refine tc_reg ?_; refine tlm ?_; refine tlm ?_; refine tv (o_subI rfl rfl (by omega)) ?_; refine tv (by first | exact o_conv32 Try.underlying3 Try.underlying33 rfl | exact o_conv Try.underlying3 Try.underlying33 rfl) ?_; refine tl_env (d := 82) (v := .int .u32 ((70 - i : Nat) : Int)) (by show Value.int .u32 (IntKind.u32.wrap (70 - (i : Int))) = _; rw [show (70 : Int) - (i : Int) = ((70 - i : Nat) : Int) by omega, wrap_u32M]; congr 1; omega) ?_; refine tlm ?_; refine tv (o_remN (b := 3) rfl rfl (by decide)) ?_; refine tlm ?_; refine tv (o_remN (b := 2) rfl rfl (by decide)) ?_; refine tv (by first | exact o_conv8 Try.underlying3 Try.underlying5 rfl | exact o_conv Try.underlying3 Try.underlying5 rfl) ?_; refine tl_env (d := 87) (v := .int .u8 ((i % 2 : Nat) : Int)) (by first | rfl | (show Value.int .u8 _ = _; congr 1; first | omega | (simp [IntKind.wrap, IntKind.bits, IntKind.signed]; omega))) ?_; refine tv (o_bS (l := [_, _, _]) (pv_cons (by conv => lhs; whnf) (pv_cons (by conv => lhs; whnf) (pv_cons (by conv => lhs; whnf) pv_nil))) Try.underlying35 z35 (pl35 Try.underlying35) rfl) ?_; refine tl_x rfl (o_buildSliceK (k := 3) (l := (manyM i).cells) Try.underlying22 sz35 z35 rfl rfl (by decide)) ?_; rintro _ _ ⟨b89, rfl, rfl⟩
          refine tl_x rfl (o_apB Try.underlying22 Try.underlying22 sz35 by35 z35 rfl (by decide) (by decide) rfl rfl rfl (by repeat (first | with_reducible exact ct_here | apply ct_left)) rfl rfl (by omega) (show _ = mcs (many i ++ [manyM i]) by rw [mcs_append]; rfl)) ?_; rintro _ _ ⟨a90, c90, rfl, hc90, rfl⟩; refine tla ?_; refine tl_nil ?_; refine q_block_n (q_then_n ?_); refine tc_reg ?_; refine tlm ?_; refine tv (by first | exact o_addI rfl rfl (by omega) | exact o_add rfl rfl) ?_; refine tla ?_; refine nq ?_; exact ⟨_, by omega, i + 1, _, _, by omega, hc90, rfl, rfl, rfl, rfl, rfl, rfl, by rw [many_succ]; repeat (first | with_reducible exact dr_refl | apply dr_keep | apply dr_drop)⟩
        · obtain rfl : i = 33 := by first | omega | (simp at h; omega)
          refine tc_exit ?_; refine q_then_e (q_then_e (q_block_x (q_then_n ?_))); refine tc_seq ?_; refine sr ?_; refine tla ?_; refine nq ?_; refine tc_block ?_; refine tc_loop (fun kk ρ BB => ∃ (j : Nat), (j ≤ 34) ∧ kk = 34 - j ∧ ρ 7 = .int .i64 (j : Nat) ∧ ρ 1 = .int .i64 9223372036854775807 ∧ ρ 2 = .slice (some ⟨b15, 0, none⟩) 5 5 ∧ ρ 3 = .slice (some ⟨b38, 0, none⟩) 13 13 ∧ ρ 5 = .slice a5 33 c5 ∧ BB = F * Sl 3 (.slice (some ⟨b15, 0, none⟩) 5 5) 5 (mcs klM) * pt b38 (cl (ecs keM) 24) * Sl 3 (.slice a5 33 c5) 33 (mcs (many 33))) (m := 34 - (31)) ?_ ?_
          · exact ⟨31, by omega, rfl, rfl, rfl, rfl, rfl, rfl, rfl⟩
          · intro k ρ B hI
            obtain ⟨j, hq0, hkk3, hE7, hE1, hE2, hE3, hE5, rfl⟩ := hI
            refine tc_env (d := 7) hE7 ?_; refine tc_env (d := 1) hE1 ?_; refine tc_env (d := 2) hE2 ?_; refine tc_env (d := 3) hE3 ?_; refine tc_env (d := 5) hE5 ?_
            clear hE7 hE1 hE2 hE3 hE5
            refine tc_seq ?_; refine sr ?_; refine tlm ?_; refine tv (o_lss rfl rfl) ?_; refine nq ?_; refine tc_cond rfl (fun h => ?_) (fun h => ?_)
            · have hj : j ≤ 33 := by first | omega | (simp at h; omega)
              have hjl := many_len j
              have hjw := many_w j
              refine tc_skip ?_; refine q_then_n ?_; refine tc_seq ?_; refine tc_block ?_; refine tc_seq ?_; refine tc_regh (S := F * Sl 3 (.slice (some ⟨b15, 0, none⟩) 5 5) 5 (mcs klM) * pt b38 (cl (ecs keM) 24) * Sl 3 (.slice a5 33 c5) 33 (mcs (many 33))) mo (by repeat (first | with_reducible exact dr_refl | apply dr_keep | apply dr_drop)) ?_
              show TH _ _ _ _ _ 38 #[ff,ff,ff,ff,ff,ff,ff,ff,ff,ff,ff,ff,ff,ff,ff,ff,ff,ff,ff,ff,ff,ff,ff,ff,ff,ff,ff,ff,ff,ff,ff,ff,ff,ff,ff,ff,ff,ff] _ _
              refine th_take (i := 0) (listed' := #[tt,ff,ff,ff,ff,ff,ff,ff,ff,ff,ff,ff,ff,ff,ff,ff,ff,ff,ff,ff,ff,ff,ff,ff,ff,ff,ff,ff,ff,ff,ff,ff,ff,ff,ff,ff,ff,ff]) rfl (by kernel_rfl) (by kernel_rfl) (by kernel_rfl) rfl rfl (o_move (by conv => lhs; whnf)) ?_; refine th_take (i := 1) (listed' := #[tt,tt,ff,ff,ff,ff,ff,ff,ff,ff,ff,ff,ff,ff,ff,ff,ff,ff,ff,ff,ff,ff,ff,ff,ff,ff,ff,ff,ff,ff,ff,ff,ff,ff,ff,ff,ff,ff]) rfl (by kernel_rfl) (by kernel_rfl) (by kernel_rfl) rfl rfl (o_move (by conv => lhs; whnf)) ?_; refine th_take (i := 2) (listed' := #[tt,tt,tt,ff,ff,ff,ff,ff,ff,ff,ff,ff,ff,ff,ff,ff,ff,ff,ff,ff,ff,ff,ff,ff,ff,ff,ff,ff,ff,ff,ff,ff,ff,ff,ff,ff,ff,ff]) rfl (by kernel_rfl) (by kernel_rfl) (by kernel_rfl) rfl rfl (o_slice (l := 0) (h := j) Try.underlying22 sz35 rfl bnd_none (bnd_nat rfl) (by omega) (by omega)) ?_; refine th_env (d := 97) (v := .slice a5 j c5) (by show Value.slice (cutAddr _ _ 0 3) (j - 0) (c5 - 0) = _; rw [show cutAddr a5 c5 0 3 = a5 by unfold cutAddr; cases a5 <;> simp [Addr.add]]; rfl) ?_; refine th_take (i := 3) (listed' := #[tt,tt,tt,tt,ff,ff,ff,ff,ff,ff,ff,ff,ff,ff,ff,ff,ff,ff,ff,ff,ff,ff,ff,ff,ff,ff,ff,ff,ff,ff,ff,ff,ff,ff,ff,ff,ff,ff]) rfl (by kernel_rfl) (by kernel_rfl) (by kernel_rfl) rfl rfl (o_bS (l := [_, _, _]) (pv_cons (by conv => lhs; whnf) pv_nil) Try.underlying35 z35 (pl35 Try.underlying35) rfl) ?_; refine th_one (i := 4) (by kernel_rfl) ?_; refine oh_c (i := 4) (listed' := #[tt,tt,tt,tt,tt,ff,ff,ff,ff,ff,ff,ff,ff,ff,ff,ff,ff,ff,ff,ff,ff,ff,ff,ff,ff,ff,ff,ff,ff,ff,ff,ff,ff,ff,ff,ff,ff,ff]) rfl rfl rfl (o_call bd6 rfl (MarksSets_f _ (l := many j) (m := ⟨70, 0, 0⟩) (z := 9) (n := j) (rs_many (by repeat (first | with_reducible exact rs_sl | with_reducible exact rs_pt rfl | apply Rs.left)) hj) hjl (by omega))) ?_
              rintro _ _ ⟨rfl, rfl⟩; refine ⟨by repeat (first | with_reducible exact dr_refl | apply dr_keep | apply dr_drop), ?_⟩; refine th_take (i := 5) (listed' := #[tt,tt,tt,tt,tt,tt,ff,ff,ff,ff,ff,ff,ff,ff,ff,ff,ff,ff,ff,ff,ff,ff,ff,ff,ff,ff,ff,ff,ff,ff,ff,ff,ff,ff,ff,ff,ff,ff]) rfl (by kernel_rfl) (by kernel_rfl) (by kernel_rfl) rfl rfl (o_not rfl) ?_; refine th_take (i := 6) (listed' := #[tt,tt,tt,tt,tt,tt,tt,ff,ff,ff,ff,ff,ff,ff,ff,ff,ff,ff,ff,ff,ff,ff,ff,ff,ff,ff,ff,ff,ff,ff,ff,ff,ff,ff,ff,ff,ff,ff]) rfl (by kernel_rfl) (by kernel_rfl) (by kernel_rfl) rfl rfl (o_move (by conv => lhs; whnf)) ?_; refine th_bool (d := 101) rfl (fun h => ?_) (fun h => ?_)
              · exfalso; simp at h
              · try simp only [lv1, lv2, lv3, lv4, lv5, lv6, Bool.not_true, Bool.not_false] at h
                refine th_take (i := 7) (listed' := #[tt,tt,tt,tt,tt,tt,tt,tt,ff,ff,ff,ff,ff,ff,ff,ff,ff,ff,ff,ff,ff,ff,ff,ff,ff,ff,ff,ff,ff,ff,ff,ff,ff,ff,ff,ff,ff,ff]) rfl (by kernel_rfl) (by kernel_rfl) (by kernel_rfl) rfl rfl (o_move (by conv => lhs; whnf)) ?_; refine th_take (i := 8) (listed' := #[tt,tt,tt,tt,tt,tt,tt,tt,tt,ff,ff,ff,ff,ff,ff,ff,ff,ff,ff,ff,ff,ff,ff,ff,ff,ff,ff,ff,ff,ff,ff,ff,ff,ff,ff,ff,ff,ff]) rfl (by kernel_rfl) (by kernel_rfl) (by kernel_rfl) rfl rfl (o_move (by conv => lhs; whnf)) ?_; refine th_take (i := 9) (listed' := #[tt,tt,tt,tt,tt,tt,tt,tt,tt,tt,ff,ff,ff,ff,ff,ff,ff,ff,ff,ff,ff,ff,ff,ff,ff,ff,ff,ff,ff,ff,ff,ff,ff,ff,ff,ff,ff,ff]) rfl (by kernel_rfl) (by kernel_rfl) (by kernel_rfl) rfl rfl (o_slice (l := 0) (h := j) Try.underlying22 sz35 rfl bnd_none (bnd_nat rfl) (by omega) (by omega)) ?_; refine th_env (d := 104) (v := .slice a5 j c5) (by show Value.slice (cutAddr _ _ 0 3) (j - 0) (c5 - 0) = _; rw [show cutAddr a5 c5 0 3 = a5 by unfold cutAddr; cases a5 <;> simp [Addr.add]]; rfl) ?_; refine th_take (i := 10) (listed' := #[tt,tt,tt,tt,tt,tt,tt,tt,tt,tt,tt,ff,ff,ff,ff,ff,ff,ff,ff,ff,ff,ff,ff,ff,ff,ff,ff,ff,ff,ff,ff,ff,ff,ff,ff,ff,ff,ff]) rfl (by kernel_rfl) (by kernel_rfl) (by kernel_rfl) rfl rfl (o_bS (l := [_, _, _]) (pv_cons (by conv => lhs; whnf) pv_nil) Try.underlying35 z35 (pl35 Try.underlying35) rfl) ?_; refine th_one (i := 11) (by kernel_rfl) ?_; refine oh_c (i := 11) (listed' := #[tt,tt,tt,tt,tt,tt,tt,tt,tt,tt,tt,tt,ff,ff,ff,ff,ff,ff,ff,ff,ff,ff,ff,ff,ff,ff,ff,ff,ff,ff,ff,ff,ff,ff,ff,ff,ff,ff]) rfl rfl rfl (o_call bd6 rfl (MarksSets_f _ (l := many j) (m := ⟨1, 0, 0⟩) (z := 1) (n := j) (rs_many (by repeat (first | with_reducible exact rs_sl | with_reducible exact rs_pt rfl | apply Rs.left)) hj) hjl (by omega))) ?_
                rintro _ _ ⟨rfl, rfl⟩; refine ⟨by repeat (first | with_reducible exact dr_refl | apply dr_keep | apply dr_drop), ?_⟩; refine th_take (i := 12) (listed' := #[tt,tt,tt,tt,tt,tt,tt,tt,tt,tt,tt,tt,tt,ff,ff,ff,ff,ff,ff,ff,ff,ff,ff,ff,ff,ff,ff,ff,ff,ff,ff,ff,ff,ff,ff,ff,ff,ff]) rfl (by kernel_rfl) (by kernel_rfl) (by kernel_rfl) rfl rfl (o_not rfl) ?_; refine th_take (i := 13) (listed' := #[tt,tt,tt,tt,tt,tt,tt,tt,tt,tt,tt,tt,tt,tt,ff,ff,ff,ff,ff,ff,ff,ff,ff,ff,ff,ff,ff,ff,ff,ff,ff,ff,ff,ff,ff,ff,ff,ff]) rfl (by kernel_rfl) (by kernel_rfl) (by kernel_rfl) rfl rfl (o_pick_f rfl (by conv => lhs; whnf)) ?_; refine th_take (i := 14) (listed' := #[tt,tt,tt,tt,tt,tt,tt,tt,tt,tt,tt,tt,tt,tt,tt,ff,ff,ff,ff,ff,ff,ff,ff,ff,ff,ff,ff,ff,ff,ff,ff,ff,ff,ff,ff,ff,ff,ff]) rfl (by kernel_rfl) (by kernel_rfl) (by kernel_rfl) rfl rfl (o_move (by conv => lhs; whnf)) ?_; refine th_bool (d := 109) rfl (fun h => ?_) (fun h => ?_)
                · exfalso; simp at h
                · try simp only [lv1, lv2, lv3, lv4, lv5, lv6, Bool.not_true, Bool.not_false] at h
                  refine th_take (i := 15) (listed' := #[tt,tt,tt,tt,tt,tt,tt,tt,tt,tt,tt,tt,tt,tt,tt,tt,ff,ff,ff,ff,ff,ff,ff,ff,ff,ff,ff,ff,ff,ff,ff,ff,ff,ff,ff,ff,ff,ff]) rfl (by kernel_rfl) (by kernel_rfl) (by kernel_rfl) rfl rfl (o_move (by conv => lhs; whnf)) ?_; refine th_take (i := 16) (listed' := #[tt,tt,tt,tt,tt,tt,tt,tt,tt,tt,tt,tt,tt,tt,tt,tt,tt,ff,ff,ff,ff,ff,ff,ff,ff,ff,ff,ff,ff,ff,ff,ff,ff,ff,ff,ff,ff,ff]) rfl (by kernel_rfl) (by kernel_rfl) (by kernel_rfl) rfl rfl (o_move (by conv => lhs; whnf)) ?_; refine th_take (i := 17) (listed' := #[tt,tt,tt,tt,tt,tt,tt,tt,tt,tt,tt,tt,tt,tt,tt,tt,tt,tt,ff,ff,ff,ff,ff,ff,ff,ff,ff,ff,ff,ff,ff,ff,ff,ff,ff,ff,ff,ff]) rfl (by kernel_rfl) (by kernel_rfl) (by kernel_rfl) rfl rfl (o_slice (l := 0) (h := j) Try.underlying22 sz35 rfl bnd_none (bnd_nat rfl) (by omega) (by omega)) ?_; refine th_env (d := 112) (v := .slice a5 j c5) (by show Value.slice (cutAddr _ _ 0 3) (j - 0) (c5 - 0) = _; rw [show cutAddr a5 c5 0 3 = a5 by unfold cutAddr; cases a5 <;> simp [Addr.add]]; rfl) ?_; refine th_take (i := 18) (listed' := #[tt,tt,tt,tt,tt,tt,tt,tt,tt,tt,tt,tt,tt,tt,tt,tt,tt,tt,tt,ff,ff,ff,ff,ff,ff,ff,ff,ff,ff,ff,ff,ff,ff,ff,ff,ff,ff,ff]) rfl (by kernel_rfl) (by kernel_rfl) (by kernel_rfl) rfl rfl (o_move (by conv => lhs; whnf)) ?_; refine th_take (i := 19) (listed' := #[tt,tt,tt,tt,tt,tt,tt,tt,tt,tt,tt,tt,tt,tt,tt,tt,tt,tt,tt,tt,ff,ff,ff,ff,ff,ff,ff,ff,ff,ff,ff,ff,ff,ff,ff,ff,ff,ff]) rfl (by kernel_rfl) (by kernel_rfl) (by kernel_rfl) rfl rfl (o_ixP (a := some ⟨b38, 0, none⟩) (j := 1) Try.underlying49 sz24 rfl rfl (by omega) nn_some) ?_
                  refine th_take (i := 20) (listed' := #[tt,tt,tt,tt,tt,tt,tt,tt,tt,tt,tt,tt,tt,tt,tt,tt,tt,tt,tt,tt,tt,ff,ff,ff,ff,ff,ff,ff,ff,ff,ff,ff,ff,ff,ff,ff,ff,ff]) rfl (by kernel_rfl) (by kernel_rfl) (by kernel_rfl) rfl rfl (o_ldPN (a := some ⟨b38, 0, none⟩) (xs := ecs keM) (vs := (Ed.mk 3 0 2).cells) a24 sz24 rfl (by repeat (first | with_reducible exact rs_sl | with_reducible exact rs_pt rfl | apply Rs.left)) (rfl) rfl (by decide)) ?_; refine th_one (i := 21) (by kernel_rfl) ?_; refine oh_c (i := 21) (listed' := #[tt,tt,tt,tt,tt,tt,tt,tt,tt,tt,tt,tt,tt,tt,tt,tt,tt,tt,tt,tt,tt,tt,ff,ff,ff,ff,ff,ff,ff,ff,ff,ff,ff,ff,ff,ff,ff,ff]) rfl rfl rfl (o_call bd3 rfl (MarksShifts_f _ (l := many j) (e := ⟨3, 0, 2⟩) (n := j) (rs_many (by repeat (first | with_reducible exact rs_sl | with_reducible exact rs_pt rfl | apply Rs.left)) hj) hjl (by omega) hjw ⟨by decide, by decide, by decide⟩)) ?_; rintro _ _ ⟨rfl, rfl⟩; refine ⟨by repeat (first | with_reducible exact dr_refl | apply dr_keep | apply dr_drop), ?_⟩; refine th_take (i := 22) (listed' := #[tt,tt,tt,tt,tt,tt,tt,tt,tt,tt,tt,tt,tt,tt,tt,tt,tt,tt,tt,tt,tt,tt,tt,ff,ff,ff,ff,ff,ff,ff,ff,ff,ff,ff,ff,ff,ff,ff]) rfl (by kernel_rfl) (by kernel_rfl) (by kernel_rfl) rfl rfl (o_not rfl) ?_; refine th_take (i := 23) (listed' := #[tt,tt,tt,tt,tt,tt,tt,tt,tt,tt,tt,tt,tt,tt,tt,tt,tt,tt,tt,tt,tt,tt,tt,tt,ff,ff,ff,ff,ff,ff,ff,ff,ff,ff,ff,ff,ff,ff]) rfl (by kernel_rfl) (by kernel_rfl) (by kernel_rfl) rfl rfl (o_pick_f rfl (by conv => lhs; whnf)) ?_
                  refine th_take (i := 24) (listed' := #[tt,tt,tt,tt,tt,tt,tt,tt,tt,tt,tt,tt,tt,tt,tt,tt,tt,tt,tt,tt,tt,tt,tt,tt,tt,ff,ff,ff,ff,ff,ff,ff,ff,ff,ff,ff,ff,ff]) rfl (by kernel_rfl) (by kernel_rfl) (by kernel_rfl) rfl rfl (o_move (by conv => lhs; whnf)) ?_; refine th_bool (d := 119) rfl (fun h => ?_) (fun h => ?_)
                  · exfalso; simp at h
                  · try simp only [lv1, lv2, lv3, lv4, lv5, lv6, Bool.not_true, Bool.not_false] at h
                    refine th_take (i := 25) (listed' := #[tt,tt,tt,tt,tt,tt,tt,tt,tt,tt,tt,tt,tt,tt,tt,tt,tt,tt,tt,tt,tt,tt,tt,tt,tt,tt,ff,ff,ff,ff,ff,ff,ff,ff,ff,ff,ff,ff]) rfl (by kernel_rfl) (by kernel_rfl) (by kernel_rfl) rfl rfl (o_move (by conv => lhs; whnf)) ?_; refine th_take (i := 26) (listed' := #[tt,tt,tt,tt,tt,tt,tt,tt,tt,tt,tt,tt,tt,tt,tt,tt,tt,tt,tt,tt,tt,tt,tt,tt,tt,tt,tt,ff,ff,ff,ff,ff,ff,ff,ff,ff,ff,ff]) rfl (by kernel_rfl) (by kernel_rfl) (by kernel_rfl) rfl rfl (o_move (by conv => lhs; whnf)) ?_; refine th_take (i := 27) (listed' := #[tt,tt,tt,tt,tt,tt,tt,tt,tt,tt,tt,tt,tt,tt,tt,tt,tt,tt,tt,tt,tt,tt,tt,tt,tt,tt,tt,tt,ff,ff,ff,ff,ff,ff,ff,ff,ff,ff]) rfl (by kernel_rfl) (by kernel_rfl) (by kernel_rfl) rfl rfl (o_slice (l := 0) (h := j) Try.underlying22 sz35 rfl bnd_none (bnd_nat rfl) (by omega) (by omega)) ?_; refine th_env (d := 122) (v := .slice a5 j c5) (by show Value.slice (cutAddr _ _ 0 3) (j - 0) (c5 - 0) = _; rw [show cutAddr a5 c5 0 3 = a5 by unfold cutAddr; cases a5 <;> simp [Addr.add]]; rfl) ?_; refine th_one (i := 28) (by kernel_rfl) ?_; refine oh_c (i := 28) (listed' := #[tt,tt,tt,tt,tt,tt,tt,tt,tt,tt,tt,tt,tt,tt,tt,tt,tt,tt,tt,tt,tt,tt,tt,tt,tt,tt,tt,tt,tt,ff,ff,ff,ff,ff,ff,ff,ff,ff]) rfl rfl rfl (o_call bd7 rfl (MarksOrders_f _ (l := many j) (n := j) (rs_many (by repeat (first | with_reducible exact rs_sl | with_reducible exact rs_pt rfl | apply Rs.left)) hj) hjl (by omega))) ?_
                    rintro _ _ ⟨rfl, rfl⟩; refine ⟨by repeat (first | with_reducible exact dr_refl | apply dr_keep | apply dr_drop), ?_⟩; refine th_take (i := 29) (listed' := #[tt,tt,tt,tt,tt,tt,tt,tt,tt,tt,tt,tt,tt,tt,tt,tt,tt,tt,tt,tt,tt,tt,tt,tt,tt,tt,tt,tt,tt,tt,ff,ff,ff,ff,ff,ff,ff,ff]) rfl (by kernel_rfl) (by kernel_rfl) (by kernel_rfl) rfl rfl (o_not rfl) ?_; refine th_take (i := 30) (listed' := #[tt,tt,tt,tt,tt,tt,tt,tt,tt,tt,tt,tt,tt,tt,tt,tt,tt,tt,tt,tt,tt,tt,tt,tt,tt,tt,tt,tt,tt,tt,tt,ff,ff,ff,ff,ff,ff,ff]) rfl (by kernel_rfl) (by kernel_rfl) (by kernel_rfl) rfl rfl (o_pick_f rfl (by conv => lhs; whnf)) ?_; refine th_take (i := 31) (listed' := #[tt,tt,tt,tt,tt,tt,tt,tt,tt,tt,tt,tt,tt,tt,tt,tt,tt,tt,tt,tt,tt,tt,tt,tt,tt,tt,tt,tt,tt,tt,tt,tt,ff,ff,ff,ff,ff,ff]) rfl (by kernel_rfl) (by kernel_rfl) (by kernel_rfl) rfl rfl (o_move (by conv => lhs; whnf)) ?_; refine th_bool (d := 126) rfl (fun h => ?_) (fun h => ?_)
                    · exfalso; simp at h
                    · try simp only [lv1, lv2, lv3, lv4, lv5, lv6, Bool.not_true, Bool.not_false] at h
                      refine th_take (i := 32) (listed' := #[tt,tt,tt,tt,tt,tt,tt,tt,tt,tt,tt,tt,tt,tt,tt,tt,tt,tt,tt,tt,tt,tt,tt,tt,tt,tt,tt,tt,tt,tt,tt,tt,tt,ff,ff,ff,ff,ff]) rfl (by kernel_rfl) (by kernel_rfl) (by kernel_rfl) rfl rfl (o_move (by conv => lhs; whnf)) ?_; refine th_take (i := 33) (listed' := #[tt,tt,tt,tt,tt,tt,tt,tt,tt,tt,tt,tt,tt,tt,tt,tt,tt,tt,tt,tt,tt,tt,tt,tt,tt,tt,tt,tt,tt,tt,tt,tt,tt,tt,ff,ff,ff,ff]) rfl (by kernel_rfl) (by kernel_rfl) (by kernel_rfl) rfl rfl (o_move (by conv => lhs; whnf)) ?_; refine th_take (i := 34) (listed' := #[tt,tt,tt,tt,tt,tt,tt,tt,tt,tt,tt,tt,tt,tt,tt,tt,tt,tt,tt,tt,tt,tt,tt,tt,tt,tt,tt,tt,tt,tt,tt,tt,tt,tt,tt,ff,ff,ff]) rfl (by kernel_rfl) (by kernel_rfl) (by kernel_rfl) rfl rfl (o_slice (l := 0) (h := j) Try.underlying22 sz35 rfl bnd_none (bnd_nat rfl) (by omega) (by omega)) ?_; refine th_env (d := 129) (v := .slice a5 j c5) (by show Value.slice (cutAddr _ _ 0 3) (j - 0) (c5 - 0) = _; rw [show cutAddr a5 c5 0 3 = a5 by unfold cutAddr; cases a5 <;> simp [Addr.add]]; rfl) ?_; refine th_one (i := 35) (by kernel_rfl) ?_; refine oh_c (i := 35) (listed' := #[tt,tt,tt,tt,tt,tt,tt,tt,tt,tt,tt,tt,tt,tt,tt,tt,tt,tt,tt,tt,tt,tt,tt,tt,tt,tt,tt,tt,tt,tt,tt,tt,tt,tt,tt,tt,ff,ff]) rfl rfl rfl (o_call bd8 rfl (MarksPacks_f _ (l := many j) (n := j) (rs_many (by repeat (first | with_reducible exact rs_sl | with_reducible exact rs_pt rfl | apply Rs.left)) hj) hjl (by omega) hjw)) ?_
                      rintro _ _ ⟨rfl, rfl⟩; refine ⟨by repeat (first | with_reducible exact dr_refl | apply dr_keep | apply dr_drop), ?_⟩; refine th_take (i := 36) (listed' := #[tt,tt,tt,tt,tt,tt,tt,tt,tt,tt,tt,tt,tt,tt,tt,tt,tt,tt,tt,tt,tt,tt,tt,tt,tt,tt,tt,tt,tt,tt,tt,tt,tt,tt,tt,tt,tt,ff]) rfl (by kernel_rfl) (by kernel_rfl) (by kernel_rfl) rfl rfl (o_not rfl) ?_; refine th_take (i := 37) (listed' := #[tt,tt,tt,tt,tt,tt,tt,tt,tt,tt,tt,tt,tt,tt,tt,tt,tt,tt,tt,tt,tt,tt,tt,tt,tt,tt,tt,tt,tt,tt,tt,tt,tt,tt,tt,tt,tt,tt]) rfl (by kernel_rfl) (by kernel_rfl) (by kernel_rfl) rfl rfl (o_pick_f rfl (by conv => lhs; whnf)) ?_; refine th_done (by kernel_rfl) ?_; refine q_then_n ?_; refine tc_cond rfl (fun h => ?_) (fun h => ?_)
                      · exfalso; simp at h
                      · try simp only [lv1, lv2, lv3, lv4, lv5, lv6, Bool.not_true, Bool.not_false] at h
                        refine tc_skip ?_; refine q_block_n (q_then_n ?_); refine tc_reg ?_; refine tlm ?_; refine tv (by first | exact o_addI rfl rfl (by omega) | exact o_add rfl rfl) ?_; refine tla ?_; refine nq ?_; exact ⟨_, by omega, j + 1, by omega, rfl, rfl, rfl, rfl, rfl, rfl, rfl⟩
            · try simp only [lv1, lv2, lv3, lv4, lv5, lv6, Bool.not_true, Bool.not_false] at h
              refine tc_exit ?_; refine q_then_e (q_then_e (q_block_x (q_then_n ?_))); refine sr ?_; refine tv (o_bS (l := [_, _, _]) (pv_cons (by conv => lhs; whnf) pv_nil) Try.underlying35 z35 (pl35 Try.underlying35) rfl) ?_; refine tv (o_bS (l := [_, _, _]) (pv_cons (by conv => lhs; whnf) pv_nil) Try.underlying35 z35 (pl35 Try.underlying35) rfl) ?_; refine tlm ?_; refine tv (o_bS (l := [_, _, _]) (pv_cons (by conv => lhs; whnf) (pv_cons (by conv => lhs; whnf) (pv_cons (by conv => lhs; whnf) pv_nil))) Try.underlying35 z35 (pl35 Try.underlying35) rfl) ?_; refine tl_x rfl (o_buildSliceL (k := 3) (vs := (oddM).map fun m => .agg m.cells.toArray) (l := mcs oddM) Try.underlying22 sz35 z35 rfl rfl (by decide) (by decide) (by intro v hv; obtain ⟨m, _, rfl⟩ := List.mem_map.1 hv; rfl) rfl) ?_; rintro _ _ ⟨b137, rfl, rfl⟩; refine tla ?_; refine nq ?_; refine tc_seq ?_; refine sr ?_; refine tla ?_; refine nq ?_; refine tc_block ?_; refine tc_loop (fun kk ρ BB => ∃ (i : Nat), (i ≤ 3) ∧ kk = 3 - i ∧ ρ 9 = .int .i64 (i : Nat) ∧ ρ 2 = .slice (some ⟨b15, 0, none⟩) 5 5 ∧ ρ 8 = .slice (some ⟨b137, 0, none⟩) 3 3 ∧ Dr BB (F * Sl 3 (.slice (some ⟨b15, 0, none⟩) 5 5) 5 (mcs klM) * pt b38 (cl (ecs keM) 24) * pt b137 (cl (mcs oddM) 35))) (m := 3 - (0)) ?_ ?_
              · exact ⟨0, by omega, rfl, rfl, rfl, rfl, (by repeat (first | with_reducible exact dr_refl | apply dr_keep | apply dr_drop))⟩
              · intro k ρ B hI
                obtain ⟨i, hr0, hkk4, hE9, hE2, hE8, hBA⟩ := hI
                refine tc_pre hBA.sat ?_
                clear hBA
                refine tc_env (d := 9) hE9 ?_; refine tc_env (d := 2) hE2 ?_; refine tc_env (d := 8) hE8 ?_
                clear hE9 hE2 hE8
                refine tc_seq ?_; refine sr ?_; refine tlm ?_; refine tlm ?_; refine tv (o_len Try.underlying22 rfl) ?_; refine tv (o_lss rfl rfl) ?_; refine nq ?_; refine tc_cond rfl (fun h => ?_) (fun h => ?_)
                · have hi : i < oddM.length := by show i < 3; first | omega | (simp at h; omega)
                  obtain ⟨x, hx⟩ : ∃ x, oddM[i] = x := ⟨_, rfl⟩
                  have hxw : MkW x := odd_w x (hx ▸ List.getElem_mem hi)
                  have hi3 : i < 3 := hi
                  have hxw1 : ∀ y ∈ [x], MkW y := fun y hy => by rw [List.mem_singleton] at hy; exact hy ▸ hxw
                  refine tc_skip ?_; refine q_then_n ?_; refine tc_seq ?_; refine tc_block ?_; refine tc_seq ?_; refine tc_regh (S := F * Sl 3 (.slice (some ⟨b15, 0, none⟩) 5 5) 5 (mcs klM) * pt b38 (cl (ecs keM) 24) * pt b137 (cl (mcs oddM) 35)) mo (by repeat (first | with_reducible exact dr_refl | apply dr_keep | apply dr_drop)) ?_
                  show TH _ _ _ _ _ 28 #[ff,ff,ff,ff,ff,ff,ff,ff,ff,ff,ff,ff,ff,ff,ff,ff,ff,ff,ff,ff,ff,ff,ff,ff,ff,ff,ff,ff] _ _
                  refine th_take (i := 0) (listed' := #[tt,ff,ff,ff,ff,ff,ff,ff,ff,ff,ff,ff,ff,ff,ff,ff,ff,ff,ff,ff,ff,ff,ff,ff,ff,ff,ff,ff]) rfl (by kernel_rfl) (by kernel_rfl) (by kernel_rfl) rfl rfl (o_move (by conv => lhs; whnf)) ?_; refine th_take (i := 1) (listed' := #[tt,tt,ff,ff,ff,ff,ff,ff,ff,ff,ff,ff,ff,ff,ff,ff,ff,ff,ff,ff,ff,ff,ff,ff,ff,ff,ff,ff]) rfl (by kernel_rfl) (by kernel_rfl) (by kernel_rfl) rfl rfl (o_move (by conv => lhs; whnf)) ?_; refine th_take (i := 2) (listed' := #[tt,tt,tt,ff,ff,ff,ff,ff,ff,ff,ff,ff,ff,ff,ff,ff,ff,ff,ff,ff,ff,ff,ff,ff,ff,ff,ff,ff]) rfl (by kernel_rfl) (by kernel_rfl) (by kernel_rfl) rfl rfl (o_move (by conv => lhs; whnf)) ?_; refine th_take (i := 3) (listed' := #[tt,tt,tt,tt,ff,ff,ff,ff,ff,ff,ff,ff,ff,ff,ff,ff,ff,ff,ff,ff,ff,ff,ff,ff,ff,ff,ff,ff]) rfl (by kernel_rfl) (by kernel_rfl) (by kernel_rfl) rfl rfl (o_ixP (a := some ⟨b137, 0, none⟩) Try.underlying22 sz35 rfl rfl (by omega) nn_some) ?_; refine th_take (i := 4) (listed' := #[tt,tt,tt,tt,tt,ff,ff,ff,ff,ff,ff,ff,ff,ff,ff,ff,ff,ff,ff,ff,ff,ff,ff,ff,ff,ff,ff,ff]) rfl (by kernel_rfl) (by kernel_rfl) (by kernel_rfl) rfl rfl (o_ldPN (a := some ⟨b137, 0, none⟩) (xs := mcs oddM) (vs := x.cells) a35 sz35 rfl (by repeat (first | with_reducible exact rs_sl | with_reducible exact rs_pt rfl | apply Rs.left)) (by rw [mcs_at hi, hx]) rfl (by decide)) ?_; refine th_one (i := 5) (by kernel_rfl) ?_; refine oh_c (i := 5) (listed' := #[tt,tt,tt,tt,tt,tt,ff,ff,ff,ff,ff,ff,ff,ff,ff,ff,ff,ff,ff,ff,ff,ff,ff,ff,ff,ff,ff,ff]) rfl rfl rfl (o_call bd6 rfl (MarksSets_f _ (l := klM) (m := x) (z := -1) (n := 5) (by repeat (first | with_reducible exact rs_sl | with_reducible exact rs_pt rfl | apply Rs.left)) rfl (by decide))) ?_
                  rintro _ _ ⟨rfl, rfl⟩; refine ⟨by repeat (first | with_reducible exact dr_refl | apply dr_keep | apply dr_drop), ?_⟩; refine th_take (i := 6) (listed' := #[tt,tt,tt,tt,tt,tt,tt,ff,ff,ff,ff,ff,ff,ff,ff,ff,ff,ff,ff,ff,ff,ff,ff,ff,ff,ff,ff,ff]) rfl (by kernel_rfl) (by kernel_rfl) (by kernel_rfl) rfl rfl (o_not rfl) ?_; refine th_take (i := 7) (listed' := #[tt,tt,tt,tt,tt,tt,tt,tt,ff,ff,ff,ff,ff,ff,ff,ff,ff,ff,ff,ff,ff,ff,ff,ff,ff,ff,ff,ff]) rfl (by kernel_rfl) (by kernel_rfl) (by kernel_rfl) rfl rfl (o_move (by conv => lhs; whnf)) ?_; refine th_bool (d := 151) rfl (fun h => ?_) (fun h => ?_)
                  · exfalso; simp at h
                  · try simp only [lv1, lv2, lv3, lv4, lv5, lv6, Bool.not_true, Bool.not_false] at h
                    refine th_take (i := 8) (listed' := #[tt,tt,tt,tt,tt,tt,tt,tt,tt,ff,ff,ff,ff,ff,ff,ff,ff,ff,ff,ff,ff,ff,ff,ff,ff,ff,ff,ff]) rfl (by kernel_rfl) (by kernel_rfl) (by kernel_rfl) rfl rfl (o_move (by conv => lhs; whnf)) ?_; refine th_take (i := 9) (listed' := #[tt,tt,tt,tt,tt,tt,tt,tt,tt,tt,ff,ff,ff,ff,ff,ff,ff,ff,ff,ff,ff,ff,ff,ff,ff,ff,ff,ff]) rfl (by kernel_rfl) (by kernel_rfl) (by kernel_rfl) rfl rfl (o_move (by conv => lhs; whnf)) ?_; refine th_take (i := 10) (listed' := #[tt,tt,tt,tt,tt,tt,tt,tt,tt,tt,tt,ff,ff,ff,ff,ff,ff,ff,ff,ff,ff,ff,ff,ff,ff,ff,ff,ff]) rfl (by kernel_rfl) (by kernel_rfl) (by kernel_rfl) rfl rfl (o_move (by conv => lhs; whnf)) ?_; refine th_take (i := 11) (listed' := #[tt,tt,tt,tt,tt,tt,tt,tt,tt,tt,tt,tt,ff,ff,ff,ff,ff,ff,ff,ff,ff,ff,ff,ff,ff,ff,ff,ff]) rfl (by kernel_rfl) (by kernel_rfl) (by kernel_rfl) rfl rfl (by first | exact o_addI rfl rfl (by omega) | exact o_add rfl rfl) ?_; refine th_take (i := 12) (listed' := #[tt,tt,tt,tt,tt,tt,tt,tt,tt,tt,tt,tt,tt,ff,ff,ff,ff,ff,ff,ff,ff,ff,ff,ff,ff,ff,ff,ff]) rfl (by kernel_rfl) (by kernel_rfl) (by kernel_rfl) rfl rfl (o_slice (l := i) (h := i + 1) Try.underlying22 sz35 rfl (bnd_nat rfl) (bnd_nat rfl) (by omega) (by omega)) ?_; refine th_env (d := 156) (v := .slice (some ⟨b137, i * 3, none⟩) 1 (3 - i)) (by show Value.slice (cutAddr _ 3 i 3) (i + 1 - i) (3 - i) = _; rw [show cutAddr (some ⟨b137, 0, none⟩) 3 i 3 = some ⟨b137, i * 3, none⟩ by unfold cutAddr; rw [if_neg (by omega)]; simp [addr_add], show i + 1 - i = 1 by omega]) ?_
                    refine th_take (i := 13) (listed' := #[tt,tt,tt,tt,tt,tt,tt,tt,tt,tt,tt,tt,tt,tt,ff,ff,ff,ff,ff,ff,ff,ff,ff,ff,ff,ff,ff,ff]) rfl (by kernel_rfl) (by kernel_rfl) (by kernel_rfl) rfl rfl (o_move (by conv => lhs; whnf)) ?_; refine th_take (i := 14) (listed' := #[tt,tt,tt,tt,tt,tt,tt,tt,tt,tt,tt,tt,tt,tt,tt,ff,ff,ff,ff,ff,ff,ff,ff,ff,ff,ff,ff,ff]) rfl (by kernel_rfl) (by kernel_rfl) (by kernel_rfl) rfl rfl (o_ixP (a := some ⟨b15, 0, none⟩) (j := 0) Try.underlying22 sz35 rfl rfl (by omega) nn_some) ?_; refine th_take (i := 15) (listed' := #[tt,tt,tt,tt,tt,tt,tt,tt,tt,tt,tt,tt,tt,tt,tt,tt,ff,ff,ff,ff,ff,ff,ff,ff,ff,ff,ff,ff]) rfl (by kernel_rfl) (by kernel_rfl) (by kernel_rfl) rfl rfl (o_ldPN (a := some ⟨b15, 0, none⟩) (xs := mcs klM) (vs := (Mk.mk 1 2 0).cells) a35 sz35 rfl (by repeat (first | with_reducible exact rs_sl | with_reducible exact rs_pt rfl | apply Rs.left)) (rfl) rfl (by decide)) ?_; refine th_one (i := 16) (by kernel_rfl) ?_; refine oh_c (i := 16) (listed' := #[tt,tt,tt,tt,tt,tt,tt,tt,tt,tt,tt,tt,tt,tt,tt,tt,tt,ff,ff,ff,ff,ff,ff,ff,ff,ff,ff,ff]) rfl rfl rfl (o_call bd6 rfl (MarksSets_f _ (l := [x]) (m := ⟨1, 2, 0⟩) (z := 5) (n := 1) (rs_odd (by repeat (first | with_reducible exact rs_sl | with_reducible exact rs_pt rfl | apply Rs.left)) hi hx) rfl (by decide))) ?_; rintro _ _ ⟨rfl, rfl⟩; refine ⟨by repeat (first | with_reducible exact dr_refl | apply dr_keep | apply dr_drop), ?_⟩
                    refine th_take (i := 17) (listed' := #[tt,tt,tt,tt,tt,tt,tt,tt,tt,tt,tt,tt,tt,tt,tt,tt,tt,tt,ff,ff,ff,ff,ff,ff,ff,ff,ff,ff]) rfl (by kernel_rfl) (by kernel_rfl) (by kernel_rfl) rfl rfl (o_not rfl) ?_; refine th_take (i := 18) (listed' := #[tt,tt,tt,tt,tt,tt,tt,tt,tt,tt,tt,tt,tt,tt,tt,tt,tt,tt,tt,ff,ff,ff,ff,ff,ff,ff,ff,ff]) rfl (by kernel_rfl) (by kernel_rfl) (by kernel_rfl) rfl rfl (o_pick_f rfl (by conv => lhs; whnf)) ?_; refine th_take (i := 19) (listed' := #[tt,tt,tt,tt,tt,tt,tt,tt,tt,tt,tt,tt,tt,tt,tt,tt,tt,tt,tt,tt,ff,ff,ff,ff,ff,ff,ff,ff]) rfl (by kernel_rfl) (by kernel_rfl) (by kernel_rfl) rfl rfl (o_move (by conv => lhs; whnf)) ?_; refine th_bool (d := 163) rfl (fun h => ?_) (fun h => ?_)
                    · exfalso; simp at h
                    · try simp only [lv1, lv2, lv3, lv4, lv5, lv6, Bool.not_true, Bool.not_false] at h
                      refine th_take (i := 20) (listed' := #[tt,tt,tt,tt,tt,tt,tt,tt,tt,tt,tt,tt,tt,tt,tt,tt,tt,tt,tt,tt,tt,ff,ff,ff,ff,ff,ff,ff]) rfl (by kernel_rfl) (by kernel_rfl) (by kernel_rfl) rfl rfl (o_move (by conv => lhs; whnf)) ?_; refine th_take (i := 21) (listed' := #[tt,tt,tt,tt,tt,tt,tt,tt,tt,tt,tt,tt,tt,tt,tt,tt,tt,tt,tt,tt,tt,tt,ff,ff,ff,ff,ff,ff]) rfl (by kernel_rfl) (by kernel_rfl) (by kernel_rfl) rfl rfl (o_move (by conv => lhs; whnf)) ?_; refine th_take (i := 22) (listed' := #[tt,tt,tt,tt,tt,tt,tt,tt,tt,tt,tt,tt,tt,tt,tt,tt,tt,tt,tt,tt,tt,tt,tt,ff,ff,ff,ff,ff]) rfl (by kernel_rfl) (by kernel_rfl) (by kernel_rfl) rfl rfl (o_move (by conv => lhs; whnf)) ?_; refine th_take (i := 23) (listed' := #[tt,tt,tt,tt,tt,tt,tt,tt,tt,tt,tt,tt,tt,tt,tt,tt,tt,tt,tt,tt,tt,tt,tt,tt,ff,ff,ff,ff]) rfl (by kernel_rfl) (by kernel_rfl) (by kernel_rfl) rfl rfl (by first | exact o_addI rfl rfl (by omega) | exact o_add rfl rfl) ?_; refine th_take (i := 24) (listed' := #[tt,tt,tt,tt,tt,tt,tt,tt,tt,tt,tt,tt,tt,tt,tt,tt,tt,tt,tt,tt,tt,tt,tt,tt,tt,ff,ff,ff]) rfl (by kernel_rfl) (by kernel_rfl) (by kernel_rfl) rfl rfl (o_slice (l := i) (h := i + 1) Try.underlying22 sz35 rfl (bnd_nat rfl) (bnd_nat rfl) (by omega) (by omega)) ?_; refine th_env (d := 168) (v := .slice (some ⟨b137, i * 3, none⟩) 1 (3 - i)) (by show Value.slice (cutAddr _ 3 i 3) (i + 1 - i) (3 - i) = _; rw [show cutAddr (some ⟨b137, 0, none⟩) 3 i 3 = some ⟨b137, i * 3, none⟩ by unfold cutAddr; rw [if_neg (by omega)]; simp [addr_add], show i + 1 - i = 1 by omega]) ?_
                      refine th_one (i := 25) (by kernel_rfl) ?_; refine oh_c (i := 25) (listed' := #[tt,tt,tt,tt,tt,tt,tt,tt,tt,tt,tt,tt,tt,tt,tt,tt,tt,tt,tt,tt,tt,tt,tt,tt,tt,tt,ff,ff]) rfl rfl rfl (o_call bd8 rfl (MarksPacks_f _ (l := [x]) (n := 1) (rs_odd (by repeat (first | with_reducible exact rs_sl | with_reducible exact rs_pt rfl | apply Rs.left)) hi hx) rfl (by decide) hxw1)) ?_; rintro _ _ ⟨rfl, rfl⟩; refine ⟨by repeat (first | with_reducible exact dr_refl | apply dr_keep | apply dr_drop), ?_⟩; refine th_take (i := 26) (listed' := #[tt,tt,tt,tt,tt,tt,tt,tt,tt,tt,tt,tt,tt,tt,tt,tt,tt,tt,tt,tt,tt,tt,tt,tt,tt,tt,tt,ff]) rfl (by kernel_rfl) (by kernel_rfl) (by kernel_rfl) rfl rfl (o_not rfl) ?_; refine th_take (i := 27) (listed' := #[tt,tt,tt,tt,tt,tt,tt,tt,tt,tt,tt,tt,tt,tt,tt,tt,tt,tt,tt,tt,tt,tt,tt,tt,tt,tt,tt,tt]) rfl (by kernel_rfl) (by kernel_rfl) (by kernel_rfl) rfl rfl (o_pick_f rfl (by conv => lhs; whnf)) ?_; refine th_done (by kernel_rfl) ?_; refine q_then_n ?_; refine tc_cond rfl (fun h => ?_) (fun h => ?_)
                      · exfalso; simp at h
                      · try simp only [lv1, lv2, lv3, lv4, lv5, lv6, Bool.not_true, Bool.not_false] at h
                        refine tc_skip ?_; refine q_block_n (q_then_n ?_); refine tc_reg ?_; refine tlm ?_; refine tv (by first | exact o_addI rfl rfl (by omega) | exact o_add rfl rfl) ?_; refine tla ?_; refine nq ?_; exact ⟨_, by omega, i + 1, by omega, rfl, rfl, rfl, rfl, (by repeat (first | with_reducible exact dr_refl | apply dr_keep | apply dr_drop))⟩
                · try simp only [lv1, lv2, lv3, lv4, lv5, lv6, Bool.not_true, Bool.not_false] at h
                  refine tc_exit ?_; refine q_then_e (q_then_e (q_block_x (q_then_n ?_))); refine tc_seq ?_; refine tc_regh (S := F * Sl 3 (.slice (some ⟨b15, 0, none⟩) 5 5) 5 (mcs klM) * pt b38 (cl (ecs keM) 24)) mo (by repeat (first | with_reducible exact dr_refl | apply dr_keep | apply dr_drop)) ?_
                  show TH _ _ _ _ _ 32 #[ff,ff,ff,ff,ff,ff,ff,ff,ff,ff,ff,ff,ff,ff,ff,ff,ff,ff,ff,ff,ff,ff,ff,ff,ff,ff,ff,ff,ff,ff,ff,ff] _ _
                  refine th_take (i := 0) (listed' := #[tt,ff,ff,ff,ff,ff,ff,ff,ff,ff,ff,ff,ff,ff,ff,ff,ff,ff,ff,ff,ff,ff,ff,ff,ff,ff,ff,ff,ff,ff,ff,ff]) rfl (by kernel_rfl) (by kernel_rfl) (by kernel_rfl) rfl rfl (o_move (by conv => lhs; whnf)) ?_; refine th_take (i := 1) (listed' := #[tt,tt,ff,ff,ff,ff,ff,ff,ff,ff,ff,ff,ff,ff,ff,ff,ff,ff,ff,ff,ff,ff,ff,ff,ff,ff,ff,ff,ff,ff,ff,ff]) rfl (by kernel_rfl) (by kernel_rfl) (by kernel_rfl) rfl rfl (o_move (by conv => lhs; whnf)) ?_; refine th_take (i := 2) (listed' := #[tt,tt,tt,ff,ff,ff,ff,ff,ff,ff,ff,ff,ff,ff,ff,ff,ff,ff,ff,ff,ff,ff,ff,ff,ff,ff,ff,ff,ff,ff,ff,ff]) rfl (by kernel_rfl) (by kernel_rfl) (by kernel_rfl) rfl rfl (o_move (by conv => lhs; whnf)) ?_; refine th_take (i := 3) (listed' := #[tt,tt,tt,tt,ff,ff,ff,ff,ff,ff,ff,ff,ff,ff,ff,ff,ff,ff,ff,ff,ff,ff,ff,ff,ff,ff,ff,ff,ff,ff,ff,ff]) rfl (by kernel_rfl) (by kernel_rfl) (by kernel_rfl) rfl rfl (o_ixP (a := some ⟨b15, 0, none⟩) (j := 0) Try.underlying22 sz35 rfl rfl (by omega) nn_some) ?_; refine th_take (i := 4) (listed' := #[tt,tt,tt,tt,tt,ff,ff,ff,ff,ff,ff,ff,ff,ff,ff,ff,ff,ff,ff,ff,ff,ff,ff,ff,ff,ff,ff,ff,ff,ff,ff,ff]) rfl (by kernel_rfl) (by kernel_rfl) (by kernel_rfl) rfl rfl (o_ldPN (a := some ⟨b15, 0, none⟩) (xs := mcs klM) (vs := (Mk.mk 1 2 0).cells) a35 sz35 rfl (by repeat (first | with_reducible exact rs_sl | with_reducible exact rs_pt rfl | apply Rs.left)) (rfl) rfl (by decide)) ?_; refine th_take (i := 7) (listed' := #[tt,tt,tt,tt,tt,ff,ff,tt,ff,ff,ff,ff,ff,ff,ff,ff,ff,ff,ff,ff,ff,ff,ff,ff,ff,ff,ff,ff,ff,ff,ff,ff]) rfl (by kernel_rfl) (by kernel_rfl) (by kernel_rfl) rfl rfl (o_move (by conv => lhs; whnf)) ?_
                  refine th_take (i := 8) (listed' := #[tt,tt,tt,tt,tt,ff,ff,tt,tt,ff,ff,ff,ff,ff,ff,ff,ff,ff,ff,ff,ff,ff,ff,ff,ff,ff,ff,ff,ff,ff,ff,ff]) rfl (by kernel_rfl) (by kernel_rfl) (by kernel_rfl) rfl rfl (o_ixP (a := some ⟨b15, 0, none⟩) (j := 0) Try.underlying22 sz35 rfl rfl (by omega) nn_some) ?_; refine th_take (i := 9) (listed' := #[tt,tt,tt,tt,tt,ff,ff,tt,tt,tt,ff,ff,ff,ff,ff,ff,ff,ff,ff,ff,ff,ff,ff,ff,ff,ff,ff,ff,ff,ff,ff,ff]) rfl (by kernel_rfl) (by kernel_rfl) (by kernel_rfl) rfl rfl (o_ldPN (a := some ⟨b15, 0, none⟩) (xs := mcs klM) (vs := (Mk.mk 1 2 0).cells) a35 sz35 rfl (by repeat (first | with_reducible exact rs_sl | with_reducible exact rs_pt rfl | apply Rs.left)) (rfl) rfl (by decide)) ?_; refine th_one (i := 5) (by kernel_rfl) ?_; refine oh_x (i := 5) (listed' := #[tt,tt,tt,tt,tt,tt,ff,tt,tt,tt,ff,ff,ff,ff,ff,ff,ff,ff,ff,ff,ff,ff,ff,ff,ff,ff,ff,ff,ff,ff,ff,ff]) rfl rfl rfl (o_buildSliceK (k := 3) (l := (Mk.mk 1 2 0).cells) Try.underlying22 sz35 z35 rfl rfl (by decide)) ?_; rintro _ _ ⟨b177, rfl, rfl⟩; refine ⟨by repeat (first | with_reducible exact dr_refl | apply dr_keep | apply dr_drop), ?_⟩; refine th_one (i := 6) (by kernel_rfl) ?_; refine oh_x (i := 6) (listed' := #[tt,tt,tt,tt,tt,tt,tt,tt,tt,tt,ff,ff,ff,ff,ff,ff,ff,ff,ff,ff,ff,ff,ff,ff,ff,ff,ff,ff,ff,ff,ff,ff]) rfl rfl rfl (o_apF (q := 5) (xs := mcs klM) Try.underlying22 Try.underlying22 sz35 by35 z35 rfl (by decide) (by decide) rfl rfl (by repeat (first | with_reducible exact ct_here | apply ct_left)) (rs_pt rfl) rfl (by decide) rfl (by decide) (show _ = mcs (klM ++ [⟨1, 2, 0⟩]) from rfl)) ?_
                  rintro _ _ ⟨a178, c178, rfl, hc178, rfl⟩; refine ⟨by repeat (first | with_reducible exact dr_refl | apply dr_keep | apply dr_drop), ?_⟩; refine th_one (i := 10) (by kernel_rfl) ?_; refine oh_c (i := 10) (listed' := #[tt,tt,tt,tt,tt,tt,tt,tt,tt,tt,tt,ff,ff,ff,ff,ff,ff,ff,ff,ff,ff,ff,ff,ff,ff,ff,ff,ff,ff,ff,ff,ff]) rfl rfl rfl (o_call bd6 rfl (MarksSets_f _ (l := klM ++ [⟨1, 2, 0⟩]) (m := ⟨1, 2, 0⟩) (z := 9) (n := 6) (by repeat (first | with_reducible exact rs_sl | with_reducible exact rs_pt rfl | apply Rs.left)) rfl (by decide))) ?_; rintro _ _ ⟨rfl, rfl⟩; refine ⟨by repeat (first | with_reducible exact dr_refl | apply dr_keep | apply dr_drop), ?_⟩; refine th_take (i := 11) (listed' := #[tt,tt,tt,tt,tt,tt,tt,tt,tt,tt,tt,tt,ff,ff,ff,ff,ff,ff,ff,ff,ff,ff,ff,ff,ff,ff,ff,ff,ff,ff,ff,ff]) rfl (by kernel_rfl) (by kernel_rfl) (by kernel_rfl) rfl rfl (o_pick_t rfl (by conv => lhs; whnf)) ?_; refine th_take (i := 12) (listed' := #[tt,tt,tt,tt,tt,tt,tt,tt,tt,tt,tt,tt,tt,ff,ff,ff,ff,ff,ff,ff,ff,ff,ff,ff,ff,ff,ff,ff,ff,ff,ff,ff]) rfl (by kernel_rfl) (by kernel_rfl) (by kernel_rfl) rfl rfl (o_move (by conv => lhs; whnf)) ?_; refine th_bool (d := 184) rfl (fun h => ?_) (fun h => ?_)
                  · try simp only [lv1, lv2, lv3, lv4, lv5, lv6, Bool.not_true, Bool.not_false] at h
                    refine th_take (i := 13) (listed' := #[tt,tt,tt,tt,tt,tt,tt,tt,tt,tt,tt,tt,tt,tt,ff,ff,ff,ff,ff,ff,ff,ff,ff,ff,ff,ff,ff,ff,ff,ff,ff,ff]) rfl (by kernel_rfl) (by kernel_rfl) (by kernel_rfl) rfl rfl (o_move (by conv => lhs; whnf)) ?_; refine th_take (i := 14) (listed' := #[tt,tt,tt,tt,tt,tt,tt,tt,tt,tt,tt,tt,tt,tt,tt,ff,ff,ff,ff,ff,ff,ff,ff,ff,ff,ff,ff,ff,ff,ff,ff,ff]) rfl (by kernel_rfl) (by kernel_rfl) (by kernel_rfl) rfl rfl (o_move (by conv => lhs; whnf)) ?_; refine th_one (i := 15) (by kernel_rfl) ?_; refine oh_x (i := 15) (listed' := #[tt,tt,tt,tt,tt,tt,tt,tt,tt,tt,tt,tt,tt,tt,tt,tt,ff,ff,ff,ff,ff,ff,ff,ff,ff,ff,ff,ff,ff,ff,ff,ff]) rfl rfl rfl (o_apF (q := 5) (xs := mcs klM) (ys := mcs klM) Try.underlying22 Try.underlying22 sz35 by35 z35 rfl (by decide) (by decide) rfl rfl (by repeat (first | with_reducible exact ct_here | apply ct_left)) (by repeat (first | with_reducible exact rs_sl | with_reducible exact rs_pt rfl | apply Rs.left)) rfl (by decide) rfl (by decide) (show _ = mcs (klM ++ klM) from rfl)) ?_; rintro _ _ ⟨a187, c187, rfl, hc187, rfl⟩; refine ⟨by repeat (first | with_reducible exact dr_refl | apply dr_keep | apply dr_drop), ?_⟩; refine th_one (i := 16) (by kernel_rfl) ?_; refine oh_c (i := 16) (listed' := #[tt,tt,tt,tt,tt,tt,tt,tt,tt,tt,tt,tt,tt,tt,tt,tt,tt,ff,ff,ff,ff,ff,ff,ff,ff,ff,ff,ff,ff,ff,ff,ff]) rfl rfl rfl (o_call bd7 rfl (MarksOrders_f _ (l := klM ++ klM) (n := 10) (by repeat (first | with_reducible exact rs_sl | with_reducible exact rs_pt rfl | apply Rs.left)) rfl (by decide))) ?_
                    rintro _ _ ⟨rfl, rfl⟩; refine ⟨by repeat (first | with_reducible exact dr_refl | apply dr_keep | apply dr_drop), ?_⟩; refine th_take (i := 17) (listed' := #[tt,tt,tt,tt,tt,tt,tt,tt,tt,tt,tt,tt,tt,tt,tt,tt,tt,tt,ff,ff,ff,ff,ff,ff,ff,ff,ff,ff,ff,ff,ff,ff]) rfl (by kernel_rfl) (by kernel_rfl) (by kernel_rfl) rfl rfl (o_pick_t rfl (by conv => lhs; whnf)) ?_; refine th_take (i := 18) (listed' := #[tt,tt,tt,tt,tt,tt,tt,tt,tt,tt,tt,tt,tt,tt,tt,tt,tt,tt,tt,ff,ff,ff,ff,ff,ff,ff,ff,ff,ff,ff,ff,ff]) rfl (by kernel_rfl) (by kernel_rfl) (by kernel_rfl) rfl rfl (o_move (by conv => lhs; whnf)) ?_; refine th_bool (d := 190) rfl (fun h => ?_) (fun h => ?_)
                    · try simp only [lv1, lv2, lv3, lv4, lv5, lv6, Bool.not_true, Bool.not_false] at h
                      refine th_one (i := 19) (by kernel_rfl) ?_; refine oh_c (i := 19) (listed' := #[tt,tt,tt,tt,tt,tt,tt,tt,tt,tt,tt,tt,tt,tt,tt,tt,tt,tt,tt,tt,ff,ff,ff,ff,ff,ff,ff,ff,ff,ff,ff,ff]) rfl rfl rfl (o_call bd8 rfl (MarksPacks_f _ (l := []) (n := 0) rs_none rfl (by decide) (fun _ h => absurd h (by simp)))) ?_; rintro _ _ ⟨rfl, rfl⟩; refine ⟨by repeat (first | with_reducible exact dr_refl | apply dr_keep | apply dr_drop), ?_⟩; refine th_take (i := 20) (listed' := #[tt,tt,tt,tt,tt,tt,tt,tt,tt,tt,tt,tt,tt,tt,tt,tt,tt,tt,tt,tt,tt,ff,ff,ff,ff,ff,ff,ff,ff,ff,ff,ff]) rfl (by kernel_rfl) (by kernel_rfl) (by kernel_rfl) rfl rfl (o_pick_t rfl (by conv => lhs; whnf)) ?_; refine th_take (i := 21) (listed' := #[tt,tt,tt,tt,tt,tt,tt,tt,tt,tt,tt,tt,tt,tt,tt,tt,tt,tt,tt,tt,tt,tt,ff,ff,ff,ff,ff,ff,ff,ff,ff,ff]) rfl (by kernel_rfl) (by kernel_rfl) (by kernel_rfl) rfl rfl (o_move (by conv => lhs; whnf)) ?_; refine th_bool (d := 193) rfl (fun h => ?_) (fun h => ?_)
                      · try simp only [lv1, lv2, lv3, lv4, lv5, lv6, Bool.not_true, Bool.not_false] at h
                        refine th_one (i := 22) (by kernel_rfl) ?_; refine oh_c (i := 22) (listed' := #[tt,tt,tt,tt,tt,tt,tt,tt,tt,tt,tt,tt,tt,tt,tt,tt,tt,tt,tt,tt,tt,tt,tt,ff,ff,ff,ff,ff,ff,ff,ff,ff]) rfl rfl rfl (o_call bd8 rfl (MarksPacks_f _ (l := []) (n := 0) rs_none rfl (by decide) (fun _ h => absurd h (by simp)))) ?_; rintro _ _ ⟨rfl, rfl⟩; refine ⟨by repeat (first | with_reducible exact dr_refl | apply dr_keep | apply dr_drop), ?_⟩; refine th_take (i := 23) (listed' := #[tt,tt,tt,tt,tt,tt,tt,tt,tt,tt,tt,tt,tt,tt,tt,tt,tt,tt,tt,tt,tt,tt,tt,tt,ff,ff,ff,ff,ff,ff,ff,ff]) rfl (by kernel_rfl) (by kernel_rfl) (by kernel_rfl) rfl rfl (o_pick_t rfl (by conv => lhs; whnf)) ?_; refine th_take (i := 24) (listed' := #[tt,tt,tt,tt,tt,tt,tt,tt,tt,tt,tt,tt,tt,tt,tt,tt,tt,tt,tt,tt,tt,tt,tt,tt,tt,ff,ff,ff,ff,ff,ff,ff]) rfl (by kernel_rfl) (by kernel_rfl) (by kernel_rfl) rfl rfl (o_move (by conv => lhs; whnf)) ?_; refine th_bool (d := 196) rfl (fun h => ?_) (fun h => ?_)
                        · try simp only [lv1, lv2, lv3, lv4, lv5, lv6, Bool.not_true, Bool.not_false] at h
                          refine th_one (i := 25) (by kernel_rfl) ?_; refine oh_c (i := 25) (listed' := #[tt,tt,tt,tt,tt,tt,tt,tt,tt,tt,tt,tt,tt,tt,tt,tt,tt,tt,tt,tt,tt,tt,tt,tt,tt,tt,ff,ff,ff,ff,ff,ff]) rfl rfl rfl (o_call bd18 rfl (Check_c (l := []) (n := 0) (z := -1) (hr := rs_none))) ?_; rintro _ _ ⟨rfl, rfl⟩; refine ⟨by repeat (first | with_reducible exact dr_refl | apply dr_keep | apply dr_drop), ?_⟩; refine th_env (d := 197) (v := .int .i64 0) (by show Value.int .i64 _ = _; rw [checkN]) ?_; refine th_take (i := 26) (listed' := #[tt,tt,tt,tt,tt,tt,tt,tt,tt,tt,tt,tt,tt,tt,tt,tt,tt,tt,tt,tt,tt,tt,tt,tt,tt,tt,tt,ff,ff,ff,ff,ff]) rfl (by kernel_rfl) (by kernel_rfl) (by kernel_rfl) rfl rfl (o_eqi rfl rfl) ?_; refine th_take (i := 27) (listed' := #[tt,tt,tt,tt,tt,tt,tt,tt,tt,tt,tt,tt,tt,tt,tt,tt,tt,tt,tt,tt,tt,tt,tt,tt,tt,tt,tt,tt,ff,ff,ff,ff]) rfl (by kernel_rfl) (by kernel_rfl) (by kernel_rfl) rfl rfl (o_pick_t rfl (by conv => lhs; whnf)) ?_; refine th_take (i := 28) (listed' := #[tt,tt,tt,tt,tt,tt,tt,tt,tt,tt,tt,tt,tt,tt,tt,tt,tt,tt,tt,tt,tt,tt,tt,tt,tt,tt,tt,tt,tt,ff,ff,ff]) rfl (by kernel_rfl) (by kernel_rfl) (by kernel_rfl) rfl rfl (o_move (by conv => lhs; whnf)) ?_; refine th_bool (d := 200) rfl (fun h => ?_) (fun h => ?_)
                          · try simp only [lv1, lv2, lv3, lv4, lv5, lv6, Bool.not_true, Bool.not_false] at h
                            refine th_one (i := 29) (by kernel_rfl) ?_; refine oh_c (i := 29) (listed' := #[tt,tt,tt,tt,tt,tt,tt,tt,tt,tt,tt,tt,tt,tt,tt,tt,tt,tt,tt,tt,tt,tt,tt,tt,tt,tt,tt,tt,tt,tt,ff,ff]) rfl rfl rfl (o_call bd15 rfl (worksM_c)) ?_; rintro _ _ ⟨rfl, rfl⟩; refine ⟨by repeat (first | with_reducible exact dr_refl | apply dr_keep | apply dr_drop), ?_⟩; refine th_take (i := 30) (listed' := #[tt,tt,tt,tt,tt,tt,tt,tt,tt,tt,tt,tt,tt,tt,tt,tt,tt,tt,tt,tt,tt,tt,tt,tt,tt,tt,tt,tt,tt,tt,tt,ff]) rfl (by kernel_rfl) (by kernel_rfl) (by kernel_rfl) rfl rfl (o_pick_t rfl (by conv => lhs; whnf)) ?_; refine th_take (i := 31) (listed' := #[tt,tt,tt,tt,tt,tt,tt,tt,tt,tt,tt,tt,tt,tt,tt,tt,tt,tt,tt,tt,tt,tt,tt,tt,tt,tt,tt,tt,tt,tt,tt,tt]) rfl (by kernel_rfl) (by kernel_rfl) (by kernel_rfl) rfl rfl (o_assign (by conv => lhs; whnf)) ?_; refine th_done (by kernel_rfl) ?_; refine q_then_n ?_; refine tc_ret ?_; exact ⟨.bool true, F, res1 rfl rfl, Dr.sat (by repeat (first | with_reducible exact dr_refl | apply dr_keep | apply dr_drop)), rfl, rfl⟩
                          · exfalso; simp at h
                        · exfalso; simp at h
                      · exfalso; simp at h
                    · exfalso; simp at h
                  · exfalso; simp at h
theorem MarksKnown_L (F : SP) : Fn Try.prog 10 #[] F (fun r B => r = .bool true ∧ B = F) := MarksKnown_f F
end Go.Vl

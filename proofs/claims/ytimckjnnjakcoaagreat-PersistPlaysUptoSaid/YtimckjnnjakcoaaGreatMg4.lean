/- What the row rests on, part 4: a calculus of assertions, walks of functions over it, and plain laws. Conditions: none. -/
import Derived.Deep.QuietTactic
import Derived.BigQuiet
import Derived.WalkKit
import Derived.Test.YtimckjnnjakcoaaGreatProg
import Derived.OrdersHeld
import Derived.Laws.BytesArg
import Derived.RangeFuncRecord
import Derived.TacticsIn
import Derived.Deep.Slices
import Derived.OpenShut
import Derived.ChangeArms
import Derived.SizedLaws
import Derived.ChangeSame
import Derived.Test.YtimckjnnjakcoaaGreatRows
import Derived.Test.YtimckjnnjakcoaaGreatMg3
set_option linter.unusedVariables false
set_option linter.unusedSimpArgs false
namespace Go.Vl
open Go Go.Proofs
theorem star3 (S a b c : SP) : S * (a * b * c) = S * a * b * c := by rw [← star_assoc, ← star_assoc]
theorem star2' (S a b : SP) : S * (a * b) = S * a * b := (star_assoc _ _ _).symm
attribute [local irreducible] Sl pt ro Dev imgS
namespace Rg
theorem units1_f {at_ n l N b1 b2 b3 : Nat} {J : Nat → SP → Prop} {X : SP → Prop} {S0 : SP} (h1 : 1 ≤ n) (h2 : at_ + n ≤ 9223372036854775807) (hN : N = ((at_ + n - 1) / 8 - at_ / 8 + 1)) (h0 : J 0 S0) (hY : ∀ F i S, i < N → J i S → Yd Tryz.prog l #[.int .i64 ((at_ / 8 + i : Nat) : Int)] (F * S) (fun v B => ∃ (b : Bool) (S' : SP), v = .bool b ∧ (b = true → J (i + 1) S') ∧ (b = false → X S') ∧ B = F * S')) :
    Fn Tryz.prog 139 #[.func (.yield l) #[] #[], .pointer (some ⟨b1, 0, none⟩), .pointer (some ⟨b2, 0, none⟩), .pointer (some ⟨b3, 0, none⟩)] (S0 * pt b1 (cl [.int .i64 (at_ : Int)] 3) * pt b2 (cl [.int .i64 (n : Int)] 3) * pt b3 (cl [.int .i64 8] 3)) (fun r B => r = .tuple #[] ∧ ((∃ S, J N S ∧ B = S * pt b1 (cl [.int .i64 (at_ : Int)] 3) * pt b2 (cl [.int .i64 (n : Int)] 3) * pt b3 (cl [.int .i64 8] 3)) ∨ ∃ S, X S ∧ B = S * pt b1 (cl [.int .i64 (at_ : Int)] 3) * pt b2 (cl [.int .i64 (n : Int)] 3) * pt b3 (cl [.int .i64 8] 3))) := by
  refine fn_enterW (args := [.func (.yield l) #[] #[], .pointer (some ⟨b1, 0, none⟩), .pointer (some ⟨b2, 0, none⟩), .pointer (some ⟨b3, 0, none⟩)]) Tryz.func139 rfl Tryz.ntmps139 (by simp) ?_; refine tc_seq ?_; refine tc_seq ?_; refine tc_reg ?_; refine tl_v rfl (by first | exact o_load p3 rfl (by repeat (first | with_reducible exact has_here | with_reducible exact has_pt | apply has_left)) rfl | exact o_loadC p3 rfl (by assumption)) ?_; refine tl_v rfl (o_lss rfl rfl) ?_; refine tlm ?_; refine tl_bool (d := 8) rfl (fun h => ?_) (fun h => ?_)
  · (exfalso; first | (revert h; simp; done) | (simp at h; done) | (revert h; simp; omega) | (simp at h; omega) | omega)
  · try simp only [lv1, lv2, lv3, lv4, lv5, lv6, Bool.not_true, Bool.not_false] at h
    refine tl_v rfl (by first | exact o_load p3 rfl (by repeat (first | with_reducible exact has_here | with_reducible exact has_pt | apply has_left)) rfl | exact o_loadC p3 rfl (by assumption)) ?_; refine tl_v rfl (o_lss rfl rfl) ?_; refine tl_v rfl (o_pick_f rfl (by conv => lhs; whnf)) ?_; refine tlm ?_; refine tl_bool (d := 12) rfl (fun h => ?_) (fun h => ?_)
    · (exfalso; first | (revert h; simp; done) | (simp at h; done) | (revert h; simp; omega) | (simp at h; omega) | omega)
    · try simp only [lv1, lv2, lv3, lv4, lv5, lv6, Bool.not_true, Bool.not_false] at h
      refine tl_v rfl (by first | exact o_load p3 rfl (by repeat (first | with_reducible exact has_here | with_reducible exact has_pt | apply has_left)) rfl | exact o_loadC p3 rfl (by assumption)) ?_; refine tl_v rfl (by first | exact o_load p3 rfl (by repeat (first | with_reducible exact has_here | with_reducible exact has_pt | apply has_left)) rfl | exact o_loadC p3 rfl (by assumption)) ?_; refine tl_v rfl (by first | exact o_subI rfl rfl (by omega) | exact o_sub rfl rfl) ?_; refine tl_v rfl (o_gtr rfl rfl) ?_; refine tl_v rfl (o_pick_f rfl (by conv => lhs; whnf)) ?_; refine tl_nil ?_; refine q_then_n ?_; refine tc_cond rfl (fun h => ?_) (fun h => ?_)
      · (exfalso; first | (revert h; simp; done) | (simp at h; done) | (revert h; simp; omega) | (simp at h; omega) | omega)
      · try simp only [lv1, lv2, lv3, lv4, lv5, lv6, Bool.not_true, Bool.not_false] at h
        refine tc_skip ?_; refine q_then_n ?_; refine tc_seq ?_; refine tc_reg ?_; refine tl_v rfl (by first | exact o_load p3 rfl (by repeat (first | with_reducible exact has_here | with_reducible exact has_pt | apply has_left)) rfl | exact o_loadC p3 rfl (by assumption)) ?_; refine tl_v rfl (by first | exact o_load p3 rfl (by repeat (first | with_reducible exact has_here | with_reducible exact has_pt | apply has_left)) rfl | exact o_loadC p3 rfl (by assumption)) ?_; refine tl_v rfl (o_quoN (b := 8) rfl rfl (by omega)) ?_; refine tla ?_; refine tl_nil ?_; refine q_then_n ?_; refine tc_block ?_; refine tc_loop (fun kk ρ BB => ∃ (k : Nat) (S : SP), (k ≤ N) ∧ (J k S) ∧ kk = N - k ∧ ρ 5 = .int .i64 ((at_ / 8 + k : Nat) : Int) ∧ ρ 35 = undef ∧ ρ 0 = .func (.yield l) #[] #[] ∧ ρ 1 = .pointer (some ⟨b1, 0, none⟩) ∧ ρ 2 = .pointer (some ⟨b2, 0, none⟩) ∧ ρ 3 = .pointer (some ⟨b3, 0, none⟩) ∧ BB = S * pt b1 (cl [.int .i64 (at_ : Int)] 3) * pt b2 (cl [.int .i64 (n : Int)] 3) * pt b3 (cl [.int .i64 8] 3)) (m := N - (0)) ?_ ?_
        · exact ⟨0, S0, by omega, h0, rfl, rfl, rfl, rfl, rfl, rfl, rfl, rfl⟩
        · intro k ρ B hI
          obtain ⟨k, S, hp0, hp1, hkk1, hE5, hE35, hE0, hE1, hE2, hE3, rfl⟩ := hI
          refine tc_env (d := 5) hE5 ?_; refine tc_env (d := 35) hE35 ?_; refine tc_env (d := 0) hE0 ?_; refine tc_env (d := 1) hE1 ?_; refine tc_env (d := 2) hE2 ?_; refine tc_env (d := 3) hE3 ?_
          clear hE5 hE35 hE0 hE1 hE2 hE3
          refine tc_seq ?_; refine tc_seq ?_; refine tc_reg ?_; refine tlm ?_; refine tl_v rfl (by first | exact o_load p3 rfl (by repeat (first | with_reducible exact has_here | with_reducible exact has_pt | apply has_left)) rfl | exact o_loadC p3 rfl (by assumption)) ?_; refine tl_v rfl (by first | exact o_load p3 rfl (by repeat (first | with_reducible exact has_here | with_reducible exact has_pt | apply has_left)) rfl | exact o_loadC p3 rfl (by assumption)) ?_; refine tl_v rfl (by first | exact o_addI rfl rfl (by omega) | exact o_add rfl rfl) ?_; refine tl_v rfl (by first | exact o_subI rfl rfl (by omega) | exact o_sub rfl rfl) ?_; refine tl_v rfl (by first | exact o_load p3 rfl (by repeat (first | with_reducible exact has_here | with_reducible exact has_pt | apply has_left)) rfl | exact o_loadC p3 rfl (by assumption)) ?_; refine tl_v rfl (o_quoI rfl rfl (by omega)) ?_; refine tl_v rfl (o_leq rfl rfl) ?_; refine tl_nil ?_; refine q_then_n ?_; refine tc_cond rfl (fun h => ?_) (fun h => ?_)
          · try simp only [lv1, lv2, lv3, lv4, lv5, lv6, Bool.not_true, Bool.not_false] at h
            refine tc_skip ?_; refine q_then_n ?_; refine tc_seq ?_; refine tc_block ?_; refine tc_seq ?_; refine tc_reg ?_; refine tlm ?_; refine tlm ?_; refine tl_y rfl rfl rfl (yd_b (F := pt b1 (cl [.int .i64 (at_ : Int)] 3) * pt b2 (cl [.int .i64 (n : Int)] 3) * pt b3 (cl [.int .i64 8] 3)) (G := fun S' => S' * pt b1 (cl [.int .i64 (at_ : Int)] 3) * pt b2 (cl [.int .i64 (n : Int)] 3) * pt b3 (cl [.int .i64 8] 3)) (hY _ k S (by omega) hp1) (by ac_rfl) (fun S' => by ac_rfl)) ?_; rintro _ _ ⟨b33, S2, rfl, hT, hF, rfl⟩; refine tl_v rfl (o_not rfl) ?_; refine tl_nil ?_; refine q_then_n ?_; refine tc_cond rfl (fun h => ?_) (fun h => ?_)
            · have hb : b33 = false := by simpa using h
              subst hb
              refine tc_ret ?_; refine q_block_r (q_then_r (q_then_r (q_block_r ?_))); exact ⟨[], _, rfl, fun _ _ h => mk0 h, .tuple #[], S2 * pt b1 (cl [.int .i64 (at_ : Int)] 3) * pt b2 (cl [.int .i64 (n : Int)] 3) * pt b3 (cl [.int .i64 8] 3), res0 rfl, fun _ _ h => h, rfl, .inr ⟨S2, hF rfl, rfl⟩⟩
            · have hb : b33 = true := by simpa using h
              subst hb
              refine tc_skip ?_; refine q_block_n (q_then_n ?_); refine tc_reg ?_; refine tlm ?_; refine tl_v rfl (by first | exact o_addI rfl rfl (by omega) | exact o_add rfl rfl) ?_; refine tla ?_; refine tl_nil ?_; refine q_then_n ?_; exact ⟨_, by omega, k + 1, _, by omega, hT rfl, rfl, rfl, rfl, rfl, rfl, rfl, rfl, rfl⟩
          · try simp only [lv1, lv2, lv3, lv4, lv5, lv6, Bool.not_true, Bool.not_false] at h
            refine tc_exit ?_; refine q_then_e (q_then_e (q_block_x ?_))
            obtain rfl : k = N := by omega
            exact ⟨[], _, rfl, fun _ _ h => mk0 h, .tuple #[], S * pt b1 (cl [.int .i64 (at_ : Int)] 3) * pt b2 (cl [.int .i64 (n : Int)] 3) * pt b3 (cl [.int .i64 8] 3), res0 rfl, fun _ _ h => h, rfl, .inl ⟨S, hp1, rfl⟩⟩
end Rg
theorem units_it {at_ n N b1 b2 b3 : Nat} (h1 : 1 ≤ n) (h2 : at_ + n ≤ 9223372036854775807) (hN : N = ((at_ + n - 1) / 8 - at_ / 8 + 1)) :
    Rg.It Tryz.prog 139 [] [.pointer (some ⟨b1, 0, none⟩), .pointer (some ⟨b2, 0, none⟩), .pointer (some ⟨b3, 0, none⟩)] (pt b1 (cl [.int .i64 (at_ : Int)] 3) * pt b2 (cl [.int .i64 (n : Int)] 3) * pt b3 (cl [.int .i64 8] 3)) N (fun i => [.int .i64 ((at_ / 8 + i : Nat) : Int)]) := fun l J X S0 h0 hY => by
  have hk : ∀ S : SP, S * (pt b1 (cl [.int .i64 (at_ : Int)] 3) * pt b2 (cl [.int .i64 (n : Int)] 3) * pt b3 (cl [.int .i64 8] 3)) = S * pt b1 (cl [.int .i64 (at_ : Int)] 3) * pt b2 (cl [.int .i64 (n : Int)] 3) * pt b3 (cl [.int .i64 8] 3) := fun S => star3 _ _ _ _
  rw [hk S0]
  refine (Rg.units1_f (J := J) (X := X) h1 h2 hN h0 hY).mono ?_; rintro v B ⟨rfl, ⟨S, hS, rfl⟩ | ⟨S, hS, rfl⟩⟩
  · exact ⟨rfl, .inl ⟨S, hS, (hk S).symm⟩⟩
  · exact ⟨rfl, .inr ⟨S, hS, (hk S).symm⟩⟩
theorem units_c {A : SP} {at_ n : Nat} :
    Fn Tryz.prog 138 #[.int .i64 (at_ : Nat), .int .i64 (n : Nat), .int .i64 8] (A) (fun r B => ∃ b1 b2 b3, r = .func (.func 139) #[] #[.pointer (some ⟨b1, 0, none⟩), .pointer (some ⟨b2, 0, none⟩), .pointer (some ⟨b3, 0, none⟩)] ∧ B = A * (pt b1 (cl [.int .i64 (at_ : Int)] 3) * pt b2 (cl [.int .i64 (n : Int)] 3) * pt b3 (cl [.int .i64 8] 3))) := by
  refine fn_enterW (args := [.int .i64 (at_ : Nat), .int .i64 (n : Nat), .int .i64 8]) Tryz.func138 rfl Tryz.ntmps138 (by simp) ?_; refine sr ?_; refine tl_x rfl (o_box rfl rfl) ?_; rintro _ _ ⟨b3, rfl, rfl⟩; refine tl_x rfl (o_box rfl rfl) ?_; rintro _ _ ⟨b4, rfl, rfl⟩; refine tl_x rfl (o_box rfl rfl) ?_; rintro _ _ ⟨b5, rfl, rfl⟩; refine tla ?_; refine nq ?_; refine sr ?_; refine tv (o_makeFunc rfl rfl) ?_; refine tla ?_; refine nq ?_; refine tc_ret ?_; exact ⟨_, _, res1 rfl rfl, fun _ _ h => h, b3, b4, b5, rfl, (star3 _ _ _ _).symm⟩
theorem Words_c {A : SP} {at_ n : Nat} :
    Fn Tryz.prog 135 #[.int .i64 (at_ : Nat), .int .i64 (n : Nat)] (A) (fun r B => ∃ b1 b2 b3, r = .func (.func 139) #[] #[.pointer (some ⟨b1, 0, none⟩), .pointer (some ⟨b2, 0, none⟩), .pointer (some ⟨b3, 0, none⟩)] ∧ B = A * (pt b1 (cl [.int .i64 (at_ : Int)] 3) * pt b2 (cl [.int .i64 (n : Int)] 3) * pt b3 (cl [.int .i64 8] 3))) := by
  refine fn_enterW (args := [.int .i64 (at_ : Nat), .int .i64 (n : Nat)]) Tryz.func135 rfl Tryz.ntmps135 (by simp) ?_; refine sr ?_; refine tla ?_; refine nq ?_; refine sr ?_; refine tlm ?_; refine tlm ?_; refine tl_c rfl (o_call bd138 rfl (units_c)) ?_; rintro _ _ ⟨b17, b27, b37, rfl, rfl⟩; refine tla ?_; refine nq ?_; refine tc_ret ?_; exact ⟨_, _, res1 rfl rfl, fun _ _ h => h, b17, b27, b37, rfl, rfl⟩
namespace Rg
theorem Lines1_f {at_ n l0 N b1 b2 : Nat} {J : Nat → SP → Prop} {X : SP → Prop} {S0 : SP} (h1 : 1 ≤ n) (h2 : at_ + n ≤ 9223372036854775807) (hN : N = (at_ + n - 1) / 64 - at_ / 64 + 1) (h0 : J 0 S0) (hY : ∀ F i S, i < N → J i S → Yd Tryz.prog l0 #[.int .i64 ((at_ / 64 + i : Nat) : Int)] (F * S) (fun v B => ∃ (b : Bool) (S' : SP), v = .bool b ∧ (b = true → J (i + 1) S') ∧ (b = false → X S') ∧ B = F * S')) :
    Fn Tryz.prog 134 #[.func (.yield l0) #[] #[], .pointer (some ⟨b1, 0, none⟩), .pointer (some ⟨b2, 0, none⟩)] (S0 * pt b1 (cl [.int .i64 (at_ : Int)] 3) * pt b2 (cl [.int .i64 (n : Int)] 3)) (fun r B => r = .tuple #[] ∧ ((∃ S, J N S ∧ B = S * pt b1 (cl [.int .i64 (at_ : Int)] 3) * pt b2 (cl [.int .i64 (n : Int)] 3)) ∨ ∃ S, X S ∧ B = S * pt b1 (cl [.int .i64 (at_ : Int)] 3) * pt b2 (cl [.int .i64 (n : Int)] 3))) := by
  refine fn_enterW (args := [.func (.yield l0) #[] #[], .pointer (some ⟨b1, 0, none⟩), .pointer (some ⟨b2, 0, none⟩)]) Tryz.func134 rfl Tryz.ntmps134 (by simp) ?_; refine tc_seq ?_; refine tc_reg ?_; refine tl_x rfl (o_box rfl rfl) ?_; rintro _ _ ⟨b3, rfl, rfl⟩; refine tl_nil ?_; refine q_then_n ?_; refine tc_seq ?_; refine tc_reg ?_; refine tl_x rfl (o_alloc z3 rfl) ?_; rintro _ _ ⟨b4, rfl, rfl⟩; refine tl_u rfl (o_stU rfl (by repeat (first | with_reducible exact upd_here | with_reducible exact upd_pt | apply upd_left)) sz3 rfl rfl (by first | decide | simp | omega) rfl) ?_; refine tl_nil ?_; refine q_then_n ?_; refine tc_seq ?_; refine tc_reg ?_; refine tl_v rfl (by first | exact o_load p3 rfl (by repeat (first | with_reducible exact has_here | with_reducible exact has_pt | apply has_left)) rfl | exact o_loadC p3 rfl (by assumption)) ?_; refine tl_v rfl (by first | exact o_load p3 rfl (by repeat (first | with_reducible exact has_here | with_reducible exact has_pt | apply has_left)) rfl | exact o_loadC p3 rfl (by assumption)) ?_; refine tl_c rfl (o_call bd135 rfl (Words_c)) ?_; rintro _ _ ⟨w1, w2, w3, rfl, rfl⟩; refine tl_nil ?_; refine q_then_n ?_; refine tc_block ?_; refine tc_rangeI (K := (pt w1 (cl [.int .i64 (at_ : Int)] 3) * pt w2 (cl [.int .i64 (n : Int)] 3) * pt w3 (cl [.int .i64 8] 3))) (N := ((at_ + n - 1) / 8 - at_ / 8 + 1)) (A0 := S0 * pt b1 (cl [.int .i64 (at_ : Int)] 3) * pt b2 (cl [.int .i64 (n : Int)] 3) * pt b3 (cl [.func (.yield l0) #[] #[]] 57) * pt b4 (cl [.int .i64 (-1)] 3)) (fun i S => ∃ (S1 : SP) (c : Nat) (ws : Int), (J c S1) ∧ ((i = 0 ∧ c = 0 ∧ ws = -1) ∨ (0 < i ∧ ws = (((at_ / 8 + i - 1) / 8 : Nat) : Int) ∧ c = (at_ / 8 + i - 1) / 8 - at_ / 64 + 1)) ∧ S = S1 * pt b1 (cl [.int .i64 (at_ : Int)] 3) * pt b2 (cl [.int .i64 (n : Int)] 3) * pt b3 (cl [.func (.yield l0) #[] #[]] 57) * pt b4 (cl [.int .i64 ws] 3)) (fun j S => ∃ (S1 : SP) (ws : Int), j = .ret ∧ (X S1) ∧ S = S1 * pt b1 (cl [.int .i64 (at_ : Int)] 3) * pt b2 (cl [.int .i64 (n : Int)] 3) * pt b3 (cl [.func (.yield l0) #[] #[]] 57) * pt b4 (cl [.int .i64 ws] 3)) rfl bd139 (units_it (N := ((at_ + n - 1) / 8 - at_ / 8 + 1)) h1 h2 rfl) (fun _ => rfl) rfl (Dr.sat (by repeat (first | with_reducible exact dr_refl | apply dr_keep | apply dr_drop))) (⟨S0, 0, -1, h0, by omega, rfl⟩) ?_ ?_ ?_
  · intro l F i S hi hI
    obtain ⟨S1, c, ws, hi0, hi1, rfl⟩ := hI
    refine tc_eq (by simp only [← star_assoc]; rfl) ?_
    have hcN : (at_ / 8 + i) / 8 - at_ / 64 < N := by omega
    refine tc_env (d := 10) (v := .int .i64 ((at_ / 8 + i : Nat) : Int)) rfl ?_; refine tc_reg ?_; refine tla ?_; refine tl_nil ?_; refine ⟨S1 * pt b1 (cl [.int .i64 (at_ : Int)] 3) * pt b2 (cl [.int .i64 (n : Int)] 3) * pt b3 (cl [.func (.yield l0) #[] #[]] 57) * pt b4 (cl [.int .i64 ws] 3), fun g w h => by simp only [← star_assoc]; exact Dr.sat (by repeat (first | with_reducible exact dr_refl | apply dr_keep | apply dr_drop)) g w h, fun F => ?_⟩; refine tc_eq (by simp only [← star_assoc]; rfl) ?_; refine tc_block ?_; refine tc_seq ?_; refine tc_reg ?_; refine tlm ?_; refine tl_v rfl (o_quoN (b := 8) rfl rfl (by omega)) ?_; refine tla ?_; refine tl_nil ?_; refine q_then_n ?_; refine tc_seq ?_; refine tc_seq ?_; refine tc_reg ?_; refine tlm ?_; refine tl_v rfl (by first | exact o_load p3 rfl (by repeat (first | with_reducible exact has_here | with_reducible exact has_pt | apply has_left)) rfl | exact o_loadC p3 rfl (by assumption)) ?_; refine tl_v rfl (o_nei rfl rfl) ?_; refine tlm ?_; refine tl_bool (d := 16) rfl (fun h => ?_) (fun h => ?_)
    · have hne : (at_ / 8 + i) / 8 = at_ / 64 + c := by simp at h; omega
      refine tl_v rfl (by first | exact o_load p57 rfl (by repeat (first | with_reducible exact has_here | with_reducible exact has_pt | apply has_left)) rfl | exact o_loadC p57 rfl (by assumption)) ?_; refine tlm ?_; refine tl_env (d := 18) (v := .int .i64 ((at_ / 64 + c : Nat) : Int)) (congrArg (fun z : Nat => Value.int .i64 (z : Int)) hne) ?_; refine tl_y rfl rfl rfl (yd_b (F := F * pt b1 (cl [.int .i64 (at_ : Int)] 3) * pt b2 (cl [.int .i64 (n : Int)] 3) * pt b3 (cl [.func (.yield l0) #[] #[]] 57) * pt b4 (cl [.int .i64 ws] 3)) (G := fun S' => F * S' * pt b1 (cl [.int .i64 (at_ : Int)] 3) * pt b2 (cl [.int .i64 (n : Int)] 3) * pt b3 (cl [.func (.yield l0) #[] #[]] 57) * pt b4 (cl [.int .i64 ws] 3)) (S := S1) (hY _ c S1 (by omega) hi0) (by ac_rfl) (fun S' => by ac_rfl)) ?_; rintro _ _ ⟨b19, S2, rfl, hT, hF, rfl⟩; refine tl_v rfl (o_not rfl) ?_; refine tl_v rfl (o_pick_t rfl (by conv => lhs; whnf)) ?_; refine tl_nil ?_; refine q_then_n ?_; refine tc_cond rfl (fun h => ?_) (fun h => ?_)
      · have hb : b19 = false := by simpa using h
        subst hb
        refine tc_ret ?_; refine q_then_r (q_block_r ?_); exact ⟨(S2) * pt b1 (cl [.int .i64 (at_ : Int)] 3) * pt b2 (cl [.int .i64 (n : Int)] 3) * pt b3 (cl [.func (.yield l0) #[] #[]] 57) * pt b4 (cl [.int .i64 (ws)] 3), fun g w h => by simp only [← star_assoc]; exact Dr.sat (by repeat (first | with_reducible exact dr_refl | apply dr_keep | apply dr_drop)) g w h, S2, ws, rfl, hF rfl, rfl⟩
      · have hb : b19 = true := by simpa using h
        subst hb
        refine tc_skip ?_; refine q_then_n ?_
        try rw [← hne]
        refine tc_reg ?_; refine tlm ?_; refine tl_u rfl (o_stU rfl (by repeat (first | with_reducible exact upd_here | with_reducible exact upd_pt | apply upd_left)) sz3 rfl rfl (by first | decide | simp | omega) rfl) ?_; refine tl_nil ?_; refine q_block_n ?_; exact ⟨(S2) * pt b1 (cl [.int .i64 (at_ : Int)] 3) * pt b2 (cl [.int .i64 (n : Int)] 3) * pt b3 (cl [.func (.yield l0) #[] #[]] 57) * pt b4 (cl [.int .i64 ((((at_ / 8 + i) / 8 : Nat) : Int))] 3), fun g w h => by simp only [← star_assoc]; exact Dr.sat (by repeat (first | with_reducible exact dr_refl | apply dr_keep | apply dr_drop)) g w h, S2, c + 1, (((at_ / 8 + i) / 8 : Nat) : Int), hT rfl, by omega, rfl⟩
    · have hne : (((at_ / 8 + i) / 8 : Nat) : Int) = ws := by simpa using h
      refine tl_skip rfl ?_; refine tl_skip rfl ?_; refine tl_skip rfl ?_; refine tl_skip rfl ?_; refine tl_v rfl (o_pick_f rfl (by conv => lhs; whnf)) ?_; refine tl_nil ?_; refine q_then_n ?_; refine tc_cond_f rfl ?_; refine tc_skip ?_; refine q_then_n ?_
      try rw [← hne]
      refine tc_reg ?_; refine tlm ?_; refine tl_u rfl (o_stU rfl (by repeat (first | with_reducible exact upd_here | with_reducible exact upd_pt | apply upd_left)) sz3 rfl rfl (by first | decide | simp | omega) rfl) ?_; refine tl_nil ?_; refine q_block_n ?_; exact ⟨(S1) * pt b1 (cl [.int .i64 (at_ : Int)] 3) * pt b2 (cl [.int .i64 (n : Int)] 3) * pt b3 (cl [.func (.yield l0) #[] #[]] 57) * pt b4 (cl [.int .i64 ((((at_ / 8 + i) / 8 : Nat) : Int))] 3), fun g w h => by simp only [← star_assoc]; exact Dr.sat (by repeat (first | with_reducible exact dr_refl | apply dr_keep | apply dr_drop)) g w h, S1, c, (((at_ / 8 + i) / 8 : Nat) : Int), hi0, by omega, rfl⟩
  · intro r S hI
    obtain ⟨S1, c, ws, hi0, hi1, rfl⟩ := hI
    refine q_block_n ?_
    obtain rfl : c = N := by omega
    exact ⟨[r], S1 * pt b1 (cl [.int .i64 (at_ : Int)] 3) * pt b2 (cl [.int .i64 (n : Int)] 3), rfl, fun _ _ h => mk1 (Dr.sat (A' := S1 * pt b1 (cl [.int .i64 (at_ : Int)] 3) * pt b2 (cl [.int .i64 (n : Int)] 3) * pt r mkO) (by repeat (first | with_reducible exact dr_refl | apply dr_keep | apply dr_drop)) _ _ h), .tuple #[], S1 * pt b1 (cl [.int .i64 (at_ : Int)] 3) * pt b2 (cl [.int .i64 (n : Int)] 3), res0 rfl, fun _ _ h => h, rfl, .inl ⟨S1, hi0, rfl⟩⟩
  · intro r j S hX
    obtain ⟨S1, ws, rfl, hx0, rfl⟩ := hX
    refine jmp_r ?_; refine q_block_r ?_; exact ⟨[r], S1 * pt b1 (cl [.int .i64 (at_ : Int)] 3) * pt b2 (cl [.int .i64 (n : Int)] 3), rfl, fun _ _ h => mk1 (Dr.sat (A' := S1 * pt b1 (cl [.int .i64 (at_ : Int)] 3) * pt b2 (cl [.int .i64 (n : Int)] 3) * pt r mkO) (by repeat (first | with_reducible exact dr_refl | apply dr_keep | apply dr_drop)) _ _ h), .tuple #[], S1 * pt b1 (cl [.int .i64 (at_ : Int)] 3) * pt b2 (cl [.int .i64 (n : Int)] 3), res0 rfl, fun _ _ h => h, rfl, .inr ⟨S1, hx0, rfl⟩⟩
end Rg
theorem Lines_it {at_ n N b1 b2 : Nat} (h1 : 1 ≤ n) (h2 : at_ + n ≤ 9223372036854775807) (hN : N = (at_ + n - 1) / 64 - at_ / 64 + 1) :
    Rg.It Tryz.prog 134 [] [.pointer (some ⟨b1, 0, none⟩), .pointer (some ⟨b2, 0, none⟩)] (pt b1 (cl [.int .i64 (at_ : Int)] 3) * pt b2 (cl [.int .i64 (n : Int)] 3)) N (fun i => [.int .i64 ((at_ / 64 + i : Nat) : Int)]) := fun l J X S0 h0 hY => by
  have hk : ∀ S : SP, S * (pt b1 (cl [.int .i64 (at_ : Int)] 3) * pt b2 (cl [.int .i64 (n : Int)] 3)) = S * pt b1 (cl [.int .i64 (at_ : Int)] 3) * pt b2 (cl [.int .i64 (n : Int)] 3) := fun S => star2' _ _ _
  rw [hk S0]
  refine (Rg.Lines1_f (J := J) (X := X) h1 h2 hN h0 hY).mono ?_; rintro v B ⟨rfl, ⟨S, hS, rfl⟩ | ⟨S, hS, rfl⟩⟩
  · exact ⟨rfl, .inl ⟨S, hS, (hk S).symm⟩⟩
  · exact ⟨rfl, .inr ⟨S, hS, (hk S).symm⟩⟩
theorem Lines_c {A : SP} {at_ n : Nat} :
    Fn Tryz.prog 123 #[.int .i64 (at_ : Nat), .int .i64 (n : Nat)] (A) (fun r B => ∃ b1 b2, r = .func (.func 134) #[] #[.pointer (some ⟨b1, 0, none⟩), .pointer (some ⟨b2, 0, none⟩)] ∧ B = A * (pt b1 (cl [.int .i64 (at_ : Int)] 3) * pt b2 (cl [.int .i64 (n : Int)] 3))) := by
  refine fn_enterW (args := [.int .i64 (at_ : Nat), .int .i64 (n : Nat)]) Tryz.func123 rfl Tryz.ntmps123 (by simp) ?_; refine sr ?_; refine tl_x rfl (o_box rfl rfl) ?_; rintro _ _ ⟨b2, rfl, rfl⟩; refine tl_x rfl (o_box rfl rfl) ?_; rintro _ _ ⟨b3, rfl, rfl⟩; refine tla ?_; refine nq ?_; refine sr ?_; refine tv (o_makeFunc rfl rfl) ?_; refine tla ?_; refine nq ?_; refine tc_ret ?_; exact ⟨_, _, res1 rfl rfl, fun _ _ h => h, b2, b3, rfl, (star2' _ _ _).symm⟩
end Go.Vl

set_option linter.unusedVariables false
set_option linter.unusedSimpArgs false
namespace Go.Vl
open Go Go.Proofs
theorem ct_wf2 {A R : SP} {C : SP → SP} {d : Nat} {s : DevS} (hc : Ct A (Dev d s) R C) {g : Gh} {w : World} (hs : sat g w A) : WfD s := by
  obtain ⟨rfl, _⟩ := hc; exact (dev_iff.1 hs).1
theorem doneS_len (s : DevS) : (doneS s).ls.length = s.ls.length := by
  unfold doneS
  split
  · rfl
  · split
    · rfl
    · simp [goesS, goPart_length]
theorem fl1_len (p : Int) (s : DevS) : (fl1 p s).2.ls.length = s.ls.length := by
  unfold fl1
  split
  · rfl
  · rw [doneS_len]; exact (onLine_fields _ _ s).2.2.2.2
/-- Lines are flushed, one behind the other; then the fence. -/
def flF : Nat → Nat → DevS → Int × DevS
  | 0, _, s => fe s
  | k + 1, q, s => if (fl1 ((q * 64 : Nat) : Int) s).1 ≠ 0 then fl1 ((q * 64 : Nat) : Int) s else flF k (q + 1) (fl1 ((q * 64 : Nat) : Int) s).2
theorem flF_zero (q : Nat) (s : DevS) : flF 0 q s = fe s := rfl
theorem flF_e {N i q : Nat} {s s2 : DevS} {e : Int} (hi : i < N) (h : fl1 (((q + i) * 64 : Nat) : Int) s = (e, s2)) (he : e ≠ 0) : flF (N - i) (q + i) s = (e, s2) := by
  rw [show N - i = (N - (i + 1)) + 1 by omega]
  show (if _ then _ else _) = _
  rw [h, if_pos he]
theorem flF_o {N i q : Nat} {s s2 : DevS} (hi : i < N) (h : fl1 (((q + i) * 64 : Nat) : Int) s = (0, s2)) : flF (N - i) (q + i) s = flF (N - (i + 1)) (q + (i + 1)) s2 := by
  rw [show N - i = (N - (i + 1)) + 1 by omega]
  show (if _ then _ else _) = _
  rw [h, if_neg (by simp)]; rfl
/-- A range is made to last. -/
def lastS (p m : Nat) (s : DevS) : Int × DevS := flF ((p + m - 1) / 64 - p / 64 + 1) (p / 64) s
attribute [local irreducible] Sl pt ro Dev imgS
namespace Rg
theorem last_c {A R : SP} {C : SP → SP} {d : Nat} {s : DevS} (hc : Ct A (Dev d s) R C := by repeat (first | with_reducible exact ct_here | apply ct_left)) {p m : Nat} (h1 : 1 ≤ m := by omega) (hpm : p + m ≤ s.ls.length * 64 := by omega) :
    Fn Tryz.prog 77 #[.pointer (some ⟨d, 0, none⟩), .int .i64 (p : Nat), .int .i64 (m : Nat)] (A) (fun r B => ∃ e s2, lastS p m s = (e, s2) ∧ r = .int .i64 e ∧ B = C (Dev d s2)) := by
  refine fn_enterW (args := [.pointer (some ⟨d, 0, none⟩), .int .i64 (p : Nat), .int .i64 (m : Nat)]) Tryz.func77 rfl Tryz.ntmps77 (by simp) ?_; refine tc_have (fun _ _ h => ct_wf2 hc h) fun hw => ?_
  obtain ⟨rfl, hC⟩ := hc
  have htop := hw.top
  refine tc_seq ?_; refine tc_reg ?_; refine tl_x rfl (o_alloc z25 rfl) ?_; rintro _ _ ⟨b6, rfl, rfl⟩; refine tl_nil ?_; refine q_then_n ?_; refine tc_seq ?_; refine tc_reg ?_; refine tlm ?_; refine tl_v rfl (o_makeFunc rfl rfl) ?_; refine tl_x rfl (o_alloc z157 rfl) ?_; rintro _ _ ⟨b7, rfl, rfl⟩; refine tl_u rfl (o_stU rfl (by repeat (first | with_reducible exact upd_here | with_reducible exact upd_pt | apply upd_left)) sz157 rfl rfl (by first | decide | simp | omega) rfl) ?_; refine tl_nil ?_; refine q_then_n ?_; refine tc_seq ?_; refine tc_seq ?_; refine tc_reg ?_; refine tlm ?_; refine tlm ?_; refine tl_c rfl (o_call bd123 rfl (Lines_c)) ?_; rintro _ _ ⟨w1, w2, rfl, rfl⟩; refine tl_nil ?_; refine q_then_n ?_; refine tc_block ?_; refine tc_rangeI (K := (pt w1 (cl [.int .i64 (p : Int)] 3) * pt w2 (cl [.int .i64 (m : Int)] 3))) (N := ((p + m - 1) / 64 - p / 64 + 1)) (A0 := R * Dev d s * pt b6 (cl [.int .i64 0] 25) * pt b7 (cl [.func (.func 37) #[.pointer (some ⟨d, 0, none⟩)] #[]] 157)) (fun i S => ∃ (s1 : DevS), (flF (((p + m - 1) / 64 - p / 64 + 1) - i) (p / 64 + i) s1 = flF ((p + m - 1) / 64 - p / 64 + 1) (p / 64) s) ∧ (s1.ls.length = s.ls.length) ∧ S = R * Dev d s1 * pt b6 (cl [.int .i64 0] 25) * pt b7 (cl [.func (.func 37) #[.pointer (some ⟨d, 0, none⟩)] #[]] 157)) (fun j S => ∃ (e : Int) (s1 : DevS), j = .ret ∧ (flF ((p + m - 1) / 64 - p / 64 + 1) (p / 64) s = (e, s1)) ∧ S = R * Dev d s1 * pt b6 (cl [.int .i64 e] 25) * pt b7 (cl [.func (.func 37) #[.pointer (some ⟨d, 0, none⟩)] #[]] 157)) rfl bd134 (Lines_it (N := ((p + m - 1) / 64 - p / 64 + 1)) h1 (by omega) rfl) (fun _ => rfl) rfl (Dr.sat (by repeat (first | with_reducible exact dr_refl | apply dr_keep | apply dr_drop))) (⟨s, rfl, rfl, rfl⟩) ?_ ?_ ?_
  · intro l F i S hi hI
    obtain ⟨s1, hi0, hi1, rfl⟩ := hI
    refine tc_eq (by simp only [← star_assoc]; rfl) ?_; refine tc_env (d := 15) (v := .int .i64 ((p / 64 + i : Nat) : Int)) rfl ?_; refine tc_reg ?_; refine tla ?_; refine tl_nil ?_; refine ⟨R * Dev d s1 * pt b6 (cl [.int .i64 0] 25) * pt b7 (cl [.func (.func 37) #[.pointer (some ⟨d, 0, none⟩)] #[]] 157), fun g w h => by simp only [← star_assoc]; exact Dr.sat (by repeat (first | with_reducible exact dr_refl | apply dr_keep | apply dr_drop)) g w h, fun F => ?_⟩; refine tc_eq (by simp only [← star_assoc]; rfl) ?_; refine tc_block ?_; refine tc_seq ?_; refine tc_reg ?_; refine tl_v rfl (by first | exact o_load p157 rfl (by repeat (first | with_reducible exact has_here | with_reducible exact has_pt | apply has_left)) rfl | exact o_loadC p157 rfl (by assumption)) ?_; refine tlm ?_; refine tl_v rfl (by first | exact o_mulI rfl rfl (by omega) | exact o_mul rfl rfl) ?_; refine tl_env (d := 18) (v := .int .i64 (((p / 64 + i) * 64 : Nat) : Int)) (rfl) ?_; refine tl_c rfl (o_dyn bd37 rfl rfl (Flush_c (s := s1) (p := (((p / 64 + i) * 64 : Nat) : Int)))) ?_; rintro _ _ ⟨e19, s19, hs19, rfl, rfl⟩; refine tla ?_; refine tl_nil ?_; refine q_then_n ?_; refine tc_seq ?_; refine tc_reg ?_; refine tlm ?_; refine tl_v rfl (o_nei rfl rfl) ?_; refine tl_nil ?_; refine q_then_n ?_; refine tc_cond rfl (fun h => ?_) (fun h => ?_)
    · have h : e19 ≠ 0 := by simpa using h
      refine tc_seq ?_; refine tc_reg ?_; refine tlm ?_; refine tl_u rfl (o_stU rfl (by repeat (first | with_reducible exact upd_here | with_reducible exact upd_pt | apply upd_left)) sz25 rfl rfl (by first | decide | simp | omega) rfl) ?_; refine tl_nil ?_; refine q_then_n ?_; refine tc_ret ?_; refine q_block_r ?_; exact ⟨R * Dev d (s19) * pt b6 (cl [.int .i64 (e19)] 25) * pt b7 (cl [.func (.func 37) #[.pointer (some ⟨d, 0, none⟩)] #[]] 157), fun g w h => by simp only [← star_assoc]; exact Dr.sat (by repeat (first | with_reducible exact dr_refl | apply dr_keep | apply dr_drop)) g w h, e19, s19, rfl, by rw [← hi0]; exact flF_e hi hs19 h, rfl⟩
    · obtain rfl : e19 = 0 := by simpa using h
      refine tc_skip ?_; refine q_block_n ?_; exact ⟨R * Dev d (s19) * pt b6 (cl [.int .i64 0] 25) * pt b7 (cl [.func (.func 37) #[.pointer (some ⟨d, 0, none⟩)] #[]] 157), fun g w h => by simp only [← star_assoc]; exact Dr.sat (by repeat (first | with_reducible exact dr_refl | apply dr_keep | apply dr_drop)) g w h, s19, by rw [← hi0]; exact (flF_o hi hs19).symm, by have := fl1_len (((p / 64 + i) * 64 : Nat) : Int) s1; rw [hs19] at this; exact this.trans hi1, rfl⟩
  · intro r S hI
    obtain ⟨s1, hi0, hi1, rfl⟩ := hI
    refine q_block_n (q_then_n ?_); refine tc_seq ?_; refine tc_reg ?_; refine tlm ?_; refine tl_c rfl (o_call bd39 rfl (Fence_c (s := s1))) ?_; rintro _ _ ⟨e24, s24, hs24, rfl, rfl⟩
    have hlast : lastS p m s = (e24, s24) := by show flF _ _ _ = _; rw [← hi0, Nat.sub_self]; exact hs24
    refine tl_u rfl (o_stU rfl (by repeat (first | with_reducible exact upd_here | with_reducible exact upd_pt | apply upd_left)) sz25 rfl rfl (by first | decide | simp | omega) rfl) ?_; refine tl_nil ?_; refine q_then_n ?_; refine tc_ret ?_; exact ⟨[r], R * Dev d s24 * pt b6 (cl [.int .i64 e24] 25), rfl, fun _ _ h => mk1 (Dr.sat (A' := R * Dev d s24 * pt b6 (cl [.int .i64 e24] 25) * pt r mkO) (by repeat (first | with_reducible exact dr_refl | apply dr_keep | apply dr_drop)) _ _ h), .int .i64 e24, C (Dev d s24), resA1 rfl (rv_cell1 p25 rfl (by repeat (first | with_reducible exact has_here | with_reducible exact has_pt | apply has_left)) rfl), fun _ _ h => by rw [hC]; exact h.left, e24, s24, hlast, rfl, rfl⟩
  · intro r j S hX
    obtain ⟨e, s1, rfl, hx0, rfl⟩ := hX
    refine jmp_r ?_; refine q_block_r (q_then_r ?_); exact ⟨[r], R * Dev d s1 * pt b6 (cl [.int .i64 e] 25), rfl, fun _ _ h => mk1 (Dr.sat (A' := R * Dev d s1 * pt b6 (cl [.int .i64 e] 25) * pt r mkO) (by repeat (first | with_reducible exact dr_refl | apply dr_keep | apply dr_drop)) _ _ h), .int .i64 e, C (Dev d s1), resA1 rfl (rv_cell1 p25 rfl (by repeat (first | with_reducible exact has_here | with_reducible exact has_pt | apply has_left)) rfl), fun _ _ h => by rw [hC]; exact h.left, e, s1, hx0, rfl, rfl⟩
end Rg
end Go.Vl

set_option linter.unusedVariables false
set_option linter.unusedSimpArgs false
namespace Go.Vl
open Go Go.Proofs
def insB (n : Nat) (p m : Int) : Bool := decide (0 ≤ p ∧ 0 ≤ m ∧ p ≤ (n : Int) * 64 ∧ m ≤ (n : Int) * 64 - p)
theorem insB_rdy {n : Nat} {p m : Int} : insB n p m = true ↔ rdy n false p m = 0 := by
  unfold insB rdy
  simp only [decide_eq_true_eq, Bool.false_eq_true, if_false]
  constructor
  · intro h; rw [if_neg (by omega)]
  · intro h
    by_cases hc : p < 0 ∨ m < 0 ∨ (n : Int) * 64 < p ∨ (n : Int) * 64 - p < m
    · rw [if_pos hc] at h; exact absurd h (by decide)
    · omega
theorem stE_off {s : DevS} (h : stE s ≠ 0) : s.off = true := by
  unfold stE at h; by_cases e : s.off = true
  · exact e
  · rw [if_neg e] at h; exact absurd rfl h
theorem stE_on {s : DevS} (h : stE s = 0) : s.off = false := by
  unfold stE at h; by_cases e : s.off = true
  · rw [if_pos e] at h; exact absurd h (by decide)
  · simpa using e
theorem layS_len' (p v : Nat) (s : DevS) : (layS p v s).ls.length = s.ls.length := (onLine_fields _ _ s).2.2.2.2
theorem storeF_len : ∀ (f p : Nat) (b : List Nat) (s : DevS), (storeF f p b s).2.ls.length = s.ls.length
  | 0, _, _, _ => rfl
  | f + 1, p, b, s => by
    unfold storeF
    split
    · rfl
    · split
      · rw [doneS_len, layS_len']
      · rw [storeF_len, doneS_len, layS_len']
theorem sto_len (p : Int) (b : List Nat) (s : DevS) : (sto p b s).2.ls.length = s.ls.length := by
  unfold sto
  split
  · rfl
  · exact storeF_len _ _ _ _
theorem sto_rdy {p : Int} {b : List Nat} {s : DevS} (h : (sto p b s).1 = 0) : rdy s.ls.length s.off p b.length = 0 := by
  unfold sto at h
  split at h
  · exact h
  · rename_i h2; exact Classical.not_not.1 h2
theorem st8_len (p : Int) (v : Nat) (s : DevS) : (st8 p v s).2.ls.length = s.ls.length := by
  unfold st8
  split
  · rfl
  · split
    · rfl
    · rw [doneS_len, layS_len']
theorem st8_rdy {p : Int} {v : Nat} {s : DevS} (h : (st8 p v s).1 = 0) : rdy s.ls.length s.off p 8 = 0 := by
  unfold st8 at h
  split at h
  · exact h
  · rename_i h2; exact Classical.not_not.1 h2
/-- What Range, Bytes, Publish answer, and the device behind them. -/
def rangeP (p m : Int) (s : DevS) : Int × DevS := if s.off = true then (5, s) else if m < 1 then (0, s) else if rdy s.ls.length false p m ≠ 0 then (6, s) else lastS p.toNat m.toNat s
def bytesP (p : Int) (b : List Nat) (s : DevS) : Int × DevS := if s.off = true then (5, s) else if b = [] then (0, s) else if (sto p b s).1 ≠ 0 then sto p b s else lastS p.toNat b.length (sto p b s).2
def pubP (p : Int) (v : Nat) (s : DevS) : Int × DevS := if (st8 p v s).1 ≠ 0 then st8 p v s else lastS p.toNat 8 (st8 p v s).2
/-- A number of n bytes that is told. -/
def loadP (p : Int) (n : Nat) (s : DevS) : Nat × Int := if rdy s.ls.length s.off p n ≠ 0 then (0, rdy s.ls.length s.off p n) else (nm (((imgS s).drop p.toNat).take n), 0)
def wordP (p : Int) (s : DevS) : Nat × Int := if s.off = true then (0, 5) else if p % 8 ≠ 0 then (0, 6) else loadP p 8 s
attribute [local irreducible] Sl pt ro Dev imgS
theorem inside_c {A R : SP} {C : SP → SP} {d : Nat} {s : DevS} (hc : Ct A (Dev d s) R C := by repeat (first | with_reducible exact ct_here | apply ct_left)) {p m : Int} (hp : -9223372036854775808 ≤ p ∧ p ≤ 9223372036854775807 := by omega) (hm : -9223372036854775808 ≤ m ∧ m ≤ 9223372036854775807 := by omega) :
    Fn Tryz.prog 76 #[.pointer (some ⟨d, 0, none⟩), .int .i64 p, .int .i64 m] (A) (fun r B => r = .bool (insB s.ls.length p m) ∧ A = B) := by
  refine fn_enterW (args := [.pointer (some ⟨d, 0, none⟩), .int .i64 p, .int .i64 m]) Tryz.func76 rfl Tryz.ntmps76 (by simp) ?_; refine tc_have (fun _ _ h => ct_wf2 hc h) fun hw => ?_
  have htop := hw.top
  refine sr ?_; refine tla ?_; refine nq ?_; refine sr ?_; refine tlm ?_; refine tv (o_geq rfl rfl) ?_; refine tlm ?_; refine tl_bool (d := 9) rfl (fun h => ?_) (fun h => ?_)
  · try simp only [lv1, lv2, lv3, lv4, lv5, lv6, Bool.not_true, Bool.not_false] at h
    refine tlm ?_; refine tv (o_geq rfl rfl) ?_; refine tv (o_pick_t rfl (by conv => lhs; whnf)) ?_; refine tlm ?_; refine tl_bool (d := 13) rfl (fun h => ?_) (fun h => ?_)
    · try simp only [lv1, lv2, lv3, lv4, lv5, lv6, Bool.not_true, Bool.not_false] at h
      refine tlm ?_; refine tlm ?_; refine tl_c rfl (o_call bd51 rfl (Size_c hc)) ?_; rintro _ _ ⟨rfl, rfl⟩; refine tv (o_leq rfl rfl) ?_; refine tv (o_pick_t rfl (by conv => lhs; whnf)) ?_; refine tlm ?_; refine tl_bool (d := 19) rfl (fun h => ?_) (fun h => ?_)
      · try simp only [lv1, lv2, lv3, lv4, lv5, lv6, Bool.not_true, Bool.not_false] at h
        refine tlm ?_; refine tlm ?_; refine tl_c rfl (o_call bd51 rfl (Size_c hc)) ?_; rintro _ _ ⟨rfl, rfl⟩; refine tlm ?_; refine tv (by first | exact o_subI rfl rfl (by omega) | exact o_sub rfl rfl) ?_; refine tv (o_leq rfl rfl) ?_; refine tv (o_pick_t rfl (by conv => lhs; whnf)) ?_; refine tla ?_; refine nq ?_; refine tc_ret ?_; exact ⟨_, A, res1 rfl rfl, fun _ _ h => h, congrArg Value.bool (by rw [Bool.eq_iff_iff]; simp [insB]; omega), rfl⟩
      · try simp only [lv1, lv2, lv3, lv4, lv5, lv6, Bool.not_true, Bool.not_false] at h
        refine tk ?_; refine tk ?_; refine tk ?_; refine tk ?_; refine tk ?_; refine tk ?_; refine tv (o_pick_f rfl (by conv => lhs; whnf)) ?_; refine tla ?_; refine nq ?_; refine tc_ret ?_; exact ⟨_, A, res1 rfl rfl, fun _ _ h => h, congrArg Value.bool (by rw [Bool.eq_iff_iff]; simp [insB]; omega), rfl⟩
    · try simp only [lv1, lv2, lv3, lv4, lv5, lv6, Bool.not_true, Bool.not_false] at h
      refine tk ?_; refine tk ?_; refine tk ?_; refine tk ?_; refine tv (o_pick_f rfl (by conv => lhs; whnf)) ?_; refine tlm ?_; refine tk ?_; refine tk ?_; refine tk ?_; refine tk ?_; refine tk ?_; refine tk ?_; refine tv (o_pick_f rfl (by conv => lhs; whnf)) ?_; refine tla ?_; refine nq ?_; refine tc_ret ?_; exact ⟨_, A, res1 rfl rfl, fun _ _ h => h, congrArg Value.bool (by rw [Bool.eq_iff_iff]; simp [insB]; omega), rfl⟩
  · try simp only [lv1, lv2, lv3, lv4, lv5, lv6, Bool.not_true, Bool.not_false] at h
    refine tk ?_; refine tk ?_; refine tv (o_pick_f rfl (by conv => lhs; whnf)) ?_; refine tlm ?_; refine tk ?_; refine tk ?_; refine tk ?_; refine tk ?_; refine tv (o_pick_f rfl (by conv => lhs; whnf)) ?_; refine tlm ?_; refine tk ?_; refine tk ?_; refine tk ?_; refine tk ?_; refine tk ?_; refine tk ?_; refine tv (o_pick_f rfl (by conv => lhs; whnf)) ?_; refine tla ?_; refine nq ?_; refine tc_ret ?_; exact ⟨_, A, res1 rfl rfl, fun _ _ h => h, congrArg Value.bool (by rw [Bool.eq_iff_iff]; simp [insB]; omega), rfl⟩
theorem Range_c {A R : SP} {C : SP → SP} {d : Nat} {s : DevS} (hc : Ct A (Dev d s) R C := by repeat (first | with_reducible exact ct_here | apply ct_left)) {p m : Int} (hp : -9223372036854775808 ≤ p ∧ p ≤ 9223372036854775807 := by omega) (hm : -9223372036854775808 ≤ m ∧ m ≤ 9223372036854775807 := by omega) :
    Fn Tryz.prog 23 #[.pointer (some ⟨d, 0, none⟩), .int .i64 p, .int .i64 m] (A) (fun r B => ∃ e s2, rangeP p m s = (e, s2) ∧ r = .int .i64 e ∧ B = C (Dev d s2)) := by
  refine fn_enterW (args := [.pointer (some ⟨d, 0, none⟩), .int .i64 p, .int .i64 m]) Tryz.func23 rfl Tryz.ntmps23 (by simp) ?_; refine tc_have (fun _ _ h => ct_wf2 hc h) fun hw => ?_
  obtain ⟨rfl, hC⟩ := hc
  have htop := hw.top
  have hpos := hw.pos
  have hAC : ∀ g w, sat g w (R * Dev d s) → sat g w (C (Dev d s)) := fun g w h => by rw [hC]; exact h
  refine sr ?_; refine tla ?_; refine nq ?_; refine tc_seq ?_; refine sr ?_; refine tlm ?_; refine tl_c rfl (o_call bd75 rfl (alive_c (s := s))) ?_; rintro _ _ ⟨rfl, rfl⟩; refine tla ?_; refine nq ?_; refine sr ?_; refine tlm ?_; refine tv (o_nei rfl rfl) ?_; refine nq ?_; refine tc_cond rfl (fun h => ?_) (fun h => ?_)
  · try simp only [lv1, lv2, lv3, lv4, lv5, lv6, Bool.not_true, Bool.not_false] at h
    refine sr ?_; refine tlm ?_; refine tla ?_; refine nq ?_; refine tc_ret ?_; refine q_then_r ?_; exact ⟨.int .i64 (stE s), C (Dev d s), res1 rfl rfl, hAC, stE s, s, by have ho := stE_off h; unfold rangeP stE; rw [if_pos ho, if_pos ho], rfl, rfl⟩
  · have ho : s.off = false := stE_on (by simpa using h)
    refine tc_skip ?_; refine q_then_n ?_; refine tc_seq ?_; refine sr ?_; refine tlm ?_; refine tv (o_lss rfl rfl) ?_; refine nq ?_; refine tc_cond rfl (fun h => ?_) (fun h => ?_)
    · try simp only [lv1, lv2, lv3, lv4, lv5, lv6, Bool.not_true, Bool.not_false] at h
      refine sr ?_; refine tla ?_; refine nq ?_; refine tc_ret ?_; refine q_then_r ?_; exact ⟨.int .i64 0, C (Dev d s), res1 rfl rfl, hAC, 0, s, by unfold rangeP; rw [if_neg (by rw [ho]; decide), if_pos h], rfl, rfl⟩
    · try simp only [lv1, lv2, lv3, lv4, lv5, lv6, Bool.not_true, Bool.not_false] at h
      refine tc_skip ?_; refine q_then_n ?_; refine tc_seq ?_; refine sr ?_; refine tlm ?_; refine tlm ?_; refine tlm ?_; refine tl_c rfl (o_call bd76 rfl (inside_c (s := s) (p := p) (m := m))) ?_; rintro _ _ ⟨rfl, rfl⟩; refine tv (o_not rfl) ?_; refine nq ?_; refine tc_cond rfl (fun h => ?_) (fun h => ?_)
      · try simp only [lv1, lv2, lv3, lv4, lv5, lv6, Bool.not_true, Bool.not_false] at h
        refine sr ?_; refine tla ?_; refine nq ?_; refine tc_ret ?_; refine q_then_r ?_; exact ⟨.int .i64 6, C (Dev d s), res1 rfl rfl, hAC, 6, s, by unfold rangeP; rw [if_neg (by rw [ho]; decide), if_neg (by omega), if_pos (fun e => by rw [insB_rdy.2 e] at h; cases h)], rfl, rfl⟩
      · have hr : rdy s.ls.length false p m = 0 := insB_rdy.1 (by simpa using h)
        have hr2 := rdy0 hr
        obtain ⟨q, rfl⟩ := Int.eq_ofNat_of_zero_le hr2.2.1
        obtain ⟨k, rfl⟩ := Int.eq_ofNat_of_zero_le hr2.2.2.1
        refine tc_skip ?_; refine q_then_n ?_; refine sr ?_; refine tlm ?_; refine tlm ?_; refine tlm ?_; refine tl_c rfl (o_call bd77 rfl (Rg.last_c (s := s) (p := q) (m := k))) ?_; rintro _ _ ⟨e23, s23, hs23, rfl, rfl⟩; refine tla ?_; refine nq ?_; refine tc_ret ?_; exact ⟨.int .i64 e23, C (Dev d s23), res1 rfl rfl, fun _ _ h => by rw [hC]; exact h, e23, s23, by unfold rangeP; rw [if_neg (by rw [ho]; decide), if_neg (by omega), if_neg (by simpa using hr)]; exact hs23, rfl, rfl⟩
theorem Bytes_c {A R : SP} {C : SP → SP} {d : Nat} {s : DevS} (hc : Ct A (Dev d s) R C := by repeat (first | with_reducible exact ct_here | apply ct_left)) {a : Option Addr} {c m : Nat} {p : Int} {xs : List Nat} (hr : Rs R a (bys xs) := by repeat (first | assumption | with_reducible exact rs_sl | with_reducible exact rs_pt0 | exact rs_none | apply Rs.left)) (hm : xs.length = m := by first | assumption | rfl) (hmc : m ≤ c := by first | assumption | omega) (hb : ∀ x ∈ xs, x < 256 := by assumption) (hml : m ≤ 140737488351232 := by omega) (hp : -9223372036854775808 ≤ p ∧ p ≤ 9223372036854775807 := by omega) (hroom : rdy s.ls.length s.off p m = 0 → Room m s := by assumption) :
    Fn Tryz.prog 59 #[.pointer (some ⟨d, 0, none⟩), .int .i64 p, .slice a m c] (A) (fun r B => ∃ e s2, bytesP p xs s = (e, s2) ∧ r = .int .i64 e ∧ B = C (Dev d s2)) := by
  refine fn_enterW (args := [.pointer (some ⟨d, 0, none⟩), .int .i64 p, .slice a m c]) Tryz.func59 rfl Tryz.ntmps59 (by simp) ?_; refine tc_have (fun _ _ h => ct_wf2 hc h) fun hw => ?_
  obtain ⟨rfl, hC⟩ := hc
  have htop := hw.top
  have hpos := hw.pos
  have hAC : ∀ g w, sat g w (R * Dev d s) → sat g w (C (Dev d s)) := fun g w h => by rw [hC]; exact h
  subst hm
  refine sr ?_; refine tla ?_; refine nq ?_; refine tc_seq ?_; refine sr ?_; refine tlm ?_; refine tl_c rfl (o_call bd75 rfl (alive_c (s := s))) ?_; rintro _ _ ⟨rfl, rfl⟩; refine tla ?_; refine nq ?_; refine sr ?_; refine tlm ?_; refine tv (o_nei rfl rfl) ?_; refine nq ?_; refine tc_cond rfl (fun h => ?_) (fun h => ?_)
  · try simp only [lv1, lv2, lv3, lv4, lv5, lv6, Bool.not_true, Bool.not_false] at h
    refine sr ?_; refine tlm ?_; refine tla ?_; refine nq ?_; refine tc_ret ?_; refine q_then_r ?_; exact ⟨.int .i64 (stE s), C (Dev d s), res1 rfl rfl, hAC, stE s, s, by have ho := stE_off h; unfold bytesP stE; rw [if_pos ho, if_pos ho], rfl, rfl⟩
  · have ho : s.off = false := stE_on (by simpa using h)
    refine tc_skip ?_; refine q_then_n ?_; refine tc_seq ?_; refine sr ?_; refine tlm ?_; refine tv (o_len Tryz.underlying32 rfl) ?_; refine tv (o_eqi rfl rfl) ?_; refine nq ?_; refine tc_cond rfl (fun h => ?_) (fun h => ?_)
    · try simp only [lv1, lv2, lv3, lv4, lv5, lv6, Bool.not_true, Bool.not_false] at h
      refine sr ?_; refine tla ?_; refine nq ?_; refine tc_ret ?_; refine q_then_r ?_; exact ⟨.int .i64 0, C (Dev d s), res1 rfl rfl, hAC, 0, s, by unfold bytesP; rw [if_neg (by rw [ho]; decide), if_pos (List.eq_nil_of_length_eq_zero (by omega))], rfl, rfl⟩
    · have hne : xs ≠ [] := fun e => by subst e; simp at h
      have hl1 : 1 ≤ xs.length := List.length_pos_iff.2 hne
      refine tc_skip ?_; refine q_then_n ?_; refine tc_seq ?_; refine sr ?_; refine tlm ?_; refine tlm ?_; refine tlm ?_; refine tl_c rfl (o_call bd34 rfl (Store_c (s := s) (p := p) (xs := xs) (hr := hr) (hmc := hmc))) ?_; rintro _ _ ⟨e20, s20, hs20, rfl, rfl⟩; refine tla ?_; refine nq ?_; refine sr ?_; refine tlm ?_; refine tv (o_nei rfl rfl) ?_; refine nq ?_; refine tc_cond rfl (fun h => ?_) (fun h => ?_)
      · try simp only [lv1, lv2, lv3, lv4, lv5, lv6, Bool.not_true, Bool.not_false] at h
        refine sr ?_; refine tlm ?_; refine tla ?_; refine nq ?_; refine tc_ret ?_; refine q_then_r ?_; exact ⟨.int .i64 e20, C (Dev d s20), res1 rfl rfl, fun _ _ h => by rw [hC]; exact h, e20, s20, by unfold bytesP; rw [if_neg (by rw [ho]; decide), if_neg hne, hs20, if_pos (by simpa using h)], rfl, rfl⟩
      · obtain rfl : e20 = 0 := by simpa using h
        have hrd := rdy0 (sto_rdy (by rw [hs20]))
        have hsl := sto_len p xs s
        rw [hs20] at hsl
        simp only at hsl
        obtain ⟨q, rfl⟩ := Int.eq_ofNat_of_zero_le hrd.2.1
        refine tc_skip ?_; refine q_then_n ?_; refine sr ?_; refine tlm ?_; refine tlm ?_; refine tlm ?_; refine tv (o_len Tryz.underlying32 rfl) ?_; refine tl_c rfl (o_call bd77 rfl (Rg.last_c (s := s20) (p := q) (m := xs.length))) ?_; rintro _ _ ⟨e28, s28, hs28, rfl, rfl⟩; refine tla ?_; refine nq ?_; refine tc_ret ?_; exact ⟨.int .i64 e28, C (Dev d s28), res1 rfl rfl, fun _ _ h => by rw [hC]; exact h, e28, s28, by unfold bytesP; rw [if_neg (by rw [ho]; decide), if_neg hne, hs20, if_neg (by simp)]; exact hs28, rfl, rfl⟩
theorem Publish_c {A R : SP} {C : SP → SP} {d : Nat} {s : DevS} (hc : Ct A (Dev d s) R C := by repeat (first | with_reducible exact ct_here | apply ct_left)) {v : Nat} {p : Int} (hp : -9223372036854775808 ≤ p ∧ p ≤ 9223372036854775807 := by omega) (hv : v < 18446744073709551616 := by omega) (hroom : Room 1 s := by assumption) :
    Fn Tryz.prog 26 #[.pointer (some ⟨d, 0, none⟩), .int .i64 p, .int .u64 (v : Nat)] (A) (fun r B => ∃ e s2, pubP p v s = (e, s2) ∧ r = .int .i64 e ∧ B = C (Dev d s2)) := by
  refine fn_enterW (args := [.pointer (some ⟨d, 0, none⟩), .int .i64 p, .int .u64 (v : Nat)]) Tryz.func26 rfl Tryz.ntmps26 (by simp) ?_; refine tc_have (fun _ _ h => ct_wf2 hc h) fun hw => ?_
  obtain ⟨rfl, hC⟩ := hc
  have htop := hw.top
  have hpos := hw.pos
  have hAC : ∀ g w, sat g w (R * Dev d s) → sat g w (C (Dev d s)) := fun g w h => by rw [hC]; exact h
  refine sr ?_; refine tla ?_; refine nq ?_; refine tc_seq ?_; refine sr ?_; refine tlm ?_; refine tlm ?_; refine tlm ?_; refine tl_c rfl (o_call bd83 rfl (Store8_c (s := s) (p := p) (v := v))) ?_; rintro _ _ ⟨e11, s11, hs11, rfl, rfl⟩; refine tla ?_; refine nq ?_; refine sr ?_; refine tlm ?_; refine tv (o_nei rfl rfl) ?_; refine nq ?_; refine tc_cond rfl (fun h => ?_) (fun h => ?_)
  · try simp only [lv1, lv2, lv3, lv4, lv5, lv6, Bool.not_true, Bool.not_false] at h
    refine sr ?_; refine tlm ?_; refine tla ?_; refine nq ?_; refine tc_ret ?_; refine q_then_r ?_; exact ⟨.int .i64 e11, C (Dev d s11), res1 rfl rfl, fun _ _ h => by rw [hC]; exact h, e11, s11, by unfold pubP; rw [hs11, if_pos (by simpa using h)], rfl, rfl⟩
  · obtain rfl : e11 = 0 := by simpa using h
    have hrd := rdy0 (st8_rdy (by rw [hs11]))
    have hsl := st8_len p v s
    rw [hs11] at hsl
    simp only at hsl
    obtain ⟨q, rfl⟩ := Int.eq_ofNat_of_zero_le hrd.2.1
    refine tc_skip ?_; refine q_then_n ?_; refine sr ?_; refine tlm ?_; refine tlm ?_; refine tl_c rfl (o_call bd77 rfl (Rg.last_c (s := s11) (p := q) (m := 8))) ?_; rintro _ _ ⟨e17, s17, hs17, rfl, rfl⟩; refine tla ?_; refine nq ?_; refine tc_ret ?_; exact ⟨.int .i64 e17, C (Dev d s17), res1 rfl rfl, fun _ _ h => by rw [hC]; exact h, e17, s17, by unfold pubP; rw [hs11, if_neg (by simp)]; exact hs17, rfl, rfl⟩
end Go.Vl

set_option linter.unusedVariables false
set_option linter.unusedSimpArgs false
namespace Go.Vl
open Go Go.Proofs
/-- v is no device: nil, or one that no call has made. -/
def NoD (A : SP) (v : Value) : Prop := v = .pointer none ∨ ∃ b, v = .pointer (some ⟨b, 0, none⟩) ∧ Cell A b 0 (.slice none 0 0)
theorem NoD.left {A X : SP} {v : Value} (h : NoD A v) : NoD (A * X) v := h.imp id fun ⟨b, e, hc⟩ => ⟨b, e, hc.left⟩
end Go.Vl

set_option linter.unusedVariables false
set_option linter.unusedSimpArgs false
namespace Go.Vl
open Go Go.Proofs
theorem img_lt {s : DevS} : ∀ x ∈ imgS s, x < 256 := fun x hx => by
  unfold imgS img at hx
  obtain ⟨l, _, h⟩ := List.mem_flatMap.1 hx
  unfold lb at h
  obtain ⟨v, _, h⟩ := List.mem_flatMap.1 h
  exact le_bytes _ _ _ h
theorem imgS_len {s : DevS} (hw : WfD s) : (imgS s).length = s.ls.length * 64 := img_length hw.line
theorem img_sub {s : DevS} {p n : Nat} : ∀ x ∈ ((imgS s).drop p).take n, x < 256 := fun x hx => img_lt x (List.mem_of_mem_drop (List.mem_of_mem_take hx))
theorem nm_take0 (xs : List Nat) (n : Nat) : nm (((xs.take n).drop 0).take n) = nm (xs.take n) := by rw [List.drop_zero, List.take_take, Nat.min_self]
theorem Put8_c {A : SP} {a : Option Addr} {c m : Nat} {xs : List Nat} {v : Nat} (hr : Rs A a (bys xs) := by repeat (first | assumption | with_reducible exact rs_sl | with_reducible exact rs_pt0 | exact rs_none | apply Rs.left)) (hm : xs.length = m := by first | assumption | rfl) (hv : v < 256 := by omega) (hl : m ≤ 1099511627776 := by omega) :
    Fn Tryz.prog 124 #[.slice a m c, .int .u8 (v : Nat)] A (fun r B => ∃ a' c', r = .slice a' (m + 1) c' ∧ m + 1 ≤ c' ∧ B = A * Sl 1 (.slice a' (m + 1) c') (m + 1) (bys (xs ++ le 1 v))) := by
  subst hm; exact fn_rs hr fun hr => fn_sl ((Put8_f A a c xs v hr hv hl).mono fun _ _ ⟨u, e, h⟩ => by rw [e]; exact h)
theorem Take8_c {A : SP} {a : Option Addr} {c m : Nat} {xs : List Nat} {p : Nat} (hr : Rs A a (bys xs) := by repeat (first | assumption | with_reducible exact rs_sl | with_reducible exact rs_pt0 | exact rs_none | apply Rs.left)) (hb : ∀ x ∈ xs, x < 256 := by assumption) (hm : xs.length = m := by first | assumption | rfl) (hp : p + 1 ≤ m := by omega) (hl : m ≤ 1099511627776 := by omega) :
    Fn Tryz.prog 125 #[.slice a m c, .int .i64 (p : Nat)] A (fun r B => r = .tuple #[.int .u8 ((nm ((xs.drop p).take 1) : Nat) : Int), .int .i64 0] ∧ A = B) := by
  subst hm; exact fn_rs hr fun hr => Take8_f A a c xs p hb hr hp hl
attribute [local irreducible] Sl pt ro Dev imgS
set_option maxRecDepth 20000 in
set_option maxHeartbeats 1000000 in
theorem FL8_ok {A R : SP} {C : SP → SP} {d : Nat} {s : DevS} (hc : Ct A (Dev d s) R C := by repeat (first | with_reducible exact ct_here | apply ct_left)) {p : Nat} (hoff : s.off = false) (hpm : p + 1 ≤ s.ls.length * 64) :
    Fn Tryz.prog 87 #[.agg [Value.int .i64 (p : Nat)].toArray, .pointer (some ⟨d, 0, none⟩)] (A) (fun r B => r = .tuple #[.int .u8 ((nm (((imgS s).drop p).take 1) : Nat) : Int), .int .i64 0] ∧ A = B) := by
  refine fn_enterW (args := [.agg [Value.int .i64 (p : Nat)].toArray, .pointer (some ⟨d, 0, none⟩)]) Tryz.func87 rfl Tryz.ntmps87 (by simp) ?_; refine tc_have (fun _ _ h => ct_wf2 hc h) fun hw => ?_
  obtain ⟨rfl, hC⟩ := hc
  have htop := hw.top
  have hil : (imgS s).length = s.ls.length * 64 := imgS_len hw
  have hI : (((imgS s).drop p).take 1).length = 1 := by rw [List.length_take, List.length_drop]; omega
  have hIb := img_sub (s := s) (p := p) (n := 1)
  refine sr ?_; refine tl_x rfl (o_box rfl rfl) ?_; rintro _ _ ⟨b2, rfl, rfl⟩; refine tla ?_; refine tla ?_; refine nq ?_; refine sr ?_; refine tla ?_; refine nq ?_; refine tc_seq ?_; refine tc_regh mo dr_refl ?_
  show TH _ _ _ _ _ 12 #[ff,ff,ff,ff,ff,ff,ff,ff,ff,ff,ff,ff] _ _
  refine th_take (i := 0) (listed' := #[tt,ff,ff,ff,ff,ff,ff,ff,ff,ff,ff,ff]) rfl (by kernel_rfl) (by kernel_rfl) (by kernel_rfl) rfl rfl (o_move (by conv => lhs; whnf)) ?_; refine th_take (i := 1) (listed' := #[tt,tt,ff,ff,ff,ff,ff,ff,ff,ff,ff,ff]) rfl (by kernel_rfl) (by kernel_rfl) (by kernel_rfl) rfl rfl (o_fieldAddr (o := 0) Tryz.underlying124 rfl rfl sz3 rfl) ?_; refine th_take (i := 2) (listed' := #[tt,tt,tt,ff,ff,ff,ff,ff,ff,ff,ff,ff]) rfl (by kernel_rfl) (by kernel_rfl) (by kernel_rfl) rfl rfl (by first | exact o_load p3 rfl (by repeat (first | with_reducible exact has_here | with_reducible exact has_pt | apply has_left)) rfl | exact o_loadC p3 rfl (by assumption)) ?_; refine th_take (i := 3) (listed' := #[tt,tt,tt,tt,ff,ff,ff,ff,ff,ff,ff,ff]) rfl (by kernel_rfl) (by kernel_rfl) (by kernel_rfl) rfl rfl (o_move (by conv => lhs; whnf)) ?_; refine th_one (i := 4) (by kernel_rfl) ?_; refine oh_c (i := 4) (listed' := #[tt,tt,tt,tt,tt,ff,ff,ff,ff,ff,ff,ff]) rfl rfl rfl (o_call bd124 rfl (Put8_c (xs := []) (v := 0))) ?_; rintro _ _ ⟨a14, c14, rfl, hc14, rfl⟩; refine ⟨by repeat (first | with_reducible exact dr_refl | apply dr_keep | apply dr_drop), ?_⟩; refine th_take (i := 5) (listed' := #[tt,tt,tt,tt,tt,tt,ff,ff,ff,ff,ff,ff]) rfl (by kernel_rfl) (by kernel_rfl) (by kernel_rfl) rfl rfl (o_len Tryz.underlying32 rfl) ?_; refine th_one (i := 6) (by kernel_rfl) ?_; refine oh_c (i := 6) (listed' := #[tt,tt,tt,tt,tt,tt,tt,ff,ff,ff,ff,ff]) rfl rfl rfl (o_call bd74 rfl (Load_c (s := s) (p := p) (m := 1))) ?_
  rintro _ _ ⟨a16, c16, rfl, hc16, rfl⟩; refine ⟨by repeat (first | with_reducible exact dr_refl | apply dr_keep | apply dr_drop), ?_⟩; refine th_take (i := 7) (listed' := #[tt,tt,tt,tt,tt,tt,tt,tt,ff,ff,ff,ff]) rfl (by kernel_rfl) (by kernel_rfl) (by kernel_rfl) rfl rfl (o_move (by conv => lhs; whnf)) ?_; refine th_take (i := 8) (listed' := #[tt,tt,tt,tt,tt,tt,tt,tt,tt,ff,ff,ff]) rfl (by kernel_rfl) (by kernel_rfl) (by kernel_rfl) rfl rfl (o_extract rfl rfl) ?_; refine th_take (i := 9) (listed' := #[tt,tt,tt,tt,tt,tt,tt,tt,tt,tt,ff,ff]) rfl (by kernel_rfl) (by kernel_rfl) (by kernel_rfl) rfl rfl (o_extract rfl rfl) ?_; refine th_take (i := 10) (listed' := #[tt,tt,tt,tt,tt,tt,tt,tt,tt,tt,tt,ff]) rfl (by kernel_rfl) (by kernel_rfl) (by kernel_rfl) rfl rfl (o_assign (by conv => lhs; whnf)) ?_; refine th_take (i := 11) (listed' := #[tt,tt,tt,tt,tt,tt,tt,tt,tt,tt,tt,tt]) rfl (by kernel_rfl) (by kernel_rfl) (by kernel_rfl) rfl rfl (o_assign (by conv => lhs; whnf)) ?_; refine th_done (by kernel_rfl) ?_; refine q_then_n ?_; refine tc_seq ?_; refine sr ?_; refine tlm ?_; refine tv (o_nei rfl rfl) ?_; refine nq ?_; refine tc_cond rfl (fun h => ?_) (fun h => ?_)
  · exfalso; simp at h
  · try simp only [lv1, lv2, lv3, lv4, lv5, lv6, Bool.not_true, Bool.not_false] at h
    refine tc_skip ?_; refine q_then_n ?_; refine sr ?_; refine tlm ?_; refine tl_c rfl (o_call bd125 rfl (Take8_c (xs := ((imgS s).drop p).take 1) (p := 0) (hm := hI))) ?_; rintro _ _ ⟨rfl, rfl⟩; refine tv (o_extract rfl rfl) ?_; refine tv (o_extract rfl rfl) ?_; refine tla ?_; refine tla ?_; refine nq ?_; refine tc_ret ?_; exact ⟨.tuple #[.int .u8 ((nm (((imgS s).drop p).take 1) : Nat) : Int), .int .i64 0], R * Dev d s, res2 rfl (congrArg (fun z : Nat => Value.int .u8 (z : Int)) (nm_take0 _ _)) rfl, Dr.sat (by repeat (first | with_reducible exact dr_refl | apply dr_keep | apply dr_drop)), rfl, rfl⟩
set_option maxRecDepth 20000 in
set_option maxHeartbeats 1000000 in
theorem FL8_no {A R : SP} {C : SP → SP} {d : Nat} {s : DevS} (hc : Ct A (Dev d s) R C := by repeat (first | with_reducible exact ct_here | apply ct_left)) {p : Int} (hp : -9223372036854775808 ≤ p ∧ p ≤ 9223372036854775807 := by omega) (hno : rdy s.ls.length s.off p 1 ≠ 0) :
    Fn Tryz.prog 87 #[.agg [Value.int .i64 p].toArray, .pointer (some ⟨d, 0, none⟩)] (A) (fun r B => r = .tuple #[.int .u8 0, .int .i64 (rdy s.ls.length s.off p 1)] ∧ A = B) := by
  refine fn_enterW (args := [.agg [Value.int .i64 p].toArray, .pointer (some ⟨d, 0, none⟩)]) Tryz.func87 rfl Tryz.ntmps87 (by simp) ?_
  obtain ⟨rfl, hC⟩ := hc
  refine sr ?_; refine tl_x rfl (o_box rfl rfl) ?_; rintro _ _ ⟨b2, rfl, rfl⟩; refine tla ?_; refine tla ?_; refine nq ?_; refine sr ?_; refine tla ?_; refine nq ?_; refine tc_seq ?_; refine tc_regh mo dr_refl ?_
  show TH _ _ _ _ _ 12 #[ff,ff,ff,ff,ff,ff,ff,ff,ff,ff,ff,ff] _ _
  refine th_take (i := 0) (listed' := #[tt,ff,ff,ff,ff,ff,ff,ff,ff,ff,ff,ff]) rfl (by kernel_rfl) (by kernel_rfl) (by kernel_rfl) rfl rfl (o_move (by conv => lhs; whnf)) ?_; refine th_take (i := 1) (listed' := #[tt,tt,ff,ff,ff,ff,ff,ff,ff,ff,ff,ff]) rfl (by kernel_rfl) (by kernel_rfl) (by kernel_rfl) rfl rfl (o_fieldAddr (o := 0) Tryz.underlying124 rfl rfl sz3 rfl) ?_; refine th_take (i := 2) (listed' := #[tt,tt,tt,ff,ff,ff,ff,ff,ff,ff,ff,ff]) rfl (by kernel_rfl) (by kernel_rfl) (by kernel_rfl) rfl rfl (by first | exact o_load p3 rfl (by repeat (first | with_reducible exact has_here | with_reducible exact has_pt | apply has_left)) rfl | exact o_loadC p3 rfl (by assumption)) ?_; refine th_take (i := 3) (listed' := #[tt,tt,tt,tt,ff,ff,ff,ff,ff,ff,ff,ff]) rfl (by kernel_rfl) (by kernel_rfl) (by kernel_rfl) rfl rfl (o_move (by conv => lhs; whnf)) ?_; refine th_one (i := 4) (by kernel_rfl) ?_; refine oh_c (i := 4) (listed' := #[tt,tt,tt,tt,tt,ff,ff,ff,ff,ff,ff,ff]) rfl rfl rfl (o_call bd124 rfl (Put8_c (xs := []) (v := 0))) ?_; rintro _ _ ⟨a14, c14, rfl, hc14, rfl⟩; refine ⟨by repeat (first | with_reducible exact dr_refl | apply dr_keep | apply dr_drop), ?_⟩; refine th_take (i := 5) (listed' := #[tt,tt,tt,tt,tt,tt,ff,ff,ff,ff,ff,ff]) rfl (by kernel_rfl) (by kernel_rfl) (by kernel_rfl) rfl rfl (o_len Tryz.underlying32 rfl) ?_; refine th_one (i := 6) (by kernel_rfl) ?_; refine oh_c (i := 6) (listed' := #[tt,tt,tt,tt,tt,tt,tt,ff,ff,ff,ff,ff]) rfl rfl rfl (o_call bd74 rfl (LoadNo_c (s := s) (p := p) (m := 1))) ?_
  rintro _ _ ⟨rfl, rfl⟩; refine ⟨by repeat (first | with_reducible exact dr_refl | apply dr_keep | apply dr_drop), ?_⟩; refine th_take (i := 7) (listed' := #[tt,tt,tt,tt,tt,tt,tt,tt,ff,ff,ff,ff]) rfl (by kernel_rfl) (by kernel_rfl) (by kernel_rfl) rfl rfl (o_move (by conv => lhs; whnf)) ?_; refine th_take (i := 8) (listed' := #[tt,tt,tt,tt,tt,tt,tt,tt,tt,ff,ff,ff]) rfl (by kernel_rfl) (by kernel_rfl) (by kernel_rfl) rfl rfl (o_extract rfl rfl) ?_; refine th_take (i := 9) (listed' := #[tt,tt,tt,tt,tt,tt,tt,tt,tt,tt,ff,ff]) rfl (by kernel_rfl) (by kernel_rfl) (by kernel_rfl) rfl rfl (o_extract rfl rfl) ?_; refine th_take (i := 10) (listed' := #[tt,tt,tt,tt,tt,tt,tt,tt,tt,tt,tt,ff]) rfl (by kernel_rfl) (by kernel_rfl) (by kernel_rfl) rfl rfl (o_assign (by conv => lhs; whnf)) ?_; refine th_take (i := 11) (listed' := #[tt,tt,tt,tt,tt,tt,tt,tt,tt,tt,tt,tt]) rfl (by kernel_rfl) (by kernel_rfl) (by kernel_rfl) rfl rfl (o_assign (by conv => lhs; whnf)) ?_; refine th_done (by kernel_rfl) ?_; refine q_then_n ?_; refine tc_seq ?_; refine sr ?_; refine tlm ?_; refine tv (o_nei rfl rfl) ?_; refine nq ?_; refine tc_cond rfl (fun h => ?_) (fun h => ?_)
  · try simp only [lv1, lv2, lv3, lv4, lv5, lv6, Bool.not_true, Bool.not_false] at h
    refine sr ?_; refine tlm ?_; refine tla ?_; refine tla ?_; refine nq ?_; refine tc_ret ?_; refine q_then_r ?_; exact ⟨.tuple #[.int .u8 0, .int .i64 (rdy s.ls.length s.off p 1)], R * Dev d s, res2 rfl rfl rfl, Dr.sat (by repeat (first | with_reducible exact dr_refl | apply dr_keep | apply dr_drop)), rfl, rfl⟩
  · exfalso; exact hno (by simpa using h)
theorem FL8_c {A R : SP} {C : SP → SP} {d : Nat} {s : DevS} (hc : Ct A (Dev d s) R C := by repeat (first | with_reducible exact ct_here | apply ct_left)) {p : Int} (hp : -9223372036854775808 ≤ p ∧ p ≤ 9223372036854775807 := by omega) : Fn Tryz.prog 87 #[.agg [Value.int .i64 p].toArray, .pointer (some ⟨d, 0, none⟩)] A (fun r B => r = .tuple #[.int .u8 (((loadP p 1 s).1 : Nat) : Int), .int .i64 (loadP p 1 s).2] ∧ A = B) := by
  by_cases h : rdy s.ls.length s.off p 1 = 0
  · have h0 := rdy0 h
    obtain ⟨q, rfl⟩ := Int.eq_ofNat_of_zero_le h0.2.1
    have e : loadP (q : Int) 1 s = (nm (((imgS s).drop q).take 1), 0) := by unfold loadP; rw [if_neg (by simpa using h)]; rfl
    rw [e]; exact FL8_ok hc h0.1 (by omega)
  · have e : loadP p 1 s = (0, rdy s.ls.length s.off p 1) := by unfold loadP; rw [if_pos (by simpa using h)]; rfl
    rw [e]; exact FL8_no hc hp (by simpa using h)
theorem Put16_c {A : SP} {a : Option Addr} {c m : Nat} {xs : List Nat} {v : Nat} (hr : Rs A a (bys xs) := by repeat (first | assumption | with_reducible exact rs_sl | with_reducible exact rs_pt0 | exact rs_none | apply Rs.left)) (hm : xs.length = m := by first | assumption | rfl) (hv : v < 65536 := by omega) (hl : m ≤ 1099511627776 := by omega) :
    Fn Tryz.prog 116 #[.slice a m c, .int .u16 (v : Nat)] A (fun r B => ∃ a' c', r = .slice a' (m + 2) c' ∧ m + 2 ≤ c' ∧ B = A * Sl 1 (.slice a' (m + 2) c') (m + 2) (bys (xs ++ le 2 v))) := by
  subst hm; exact fn_rs hr fun hr => fn_sl ((Put16_f A a c xs v hr hv hl).mono fun _ _ ⟨u, e, h⟩ => by rw [e]; exact h)
theorem Take16_c {A : SP} {a : Option Addr} {c m : Nat} {xs : List Nat} {p : Nat} (hr : Rs A a (bys xs) := by repeat (first | assumption | with_reducible exact rs_sl | with_reducible exact rs_pt0 | exact rs_none | apply Rs.left)) (hb : ∀ x ∈ xs, x < 256 := by assumption) (hm : xs.length = m := by first | assumption | rfl) (hp : p + 2 ≤ m := by omega) (hl : m ≤ 1099511627776 := by omega) :
    Fn Tryz.prog 117 #[.slice a m c, .int .i64 (p : Nat)] A (fun r B => r = .tuple #[.int .u16 ((nm ((xs.drop p).take 2) : Nat) : Int), .int .i64 0] ∧ A = B) := by
  subst hm; exact fn_rs hr fun hr => Take16_f A a c xs p hb hr hp hl
set_option maxRecDepth 20000 in
set_option maxHeartbeats 1000000 in
theorem FL16_ok {A R : SP} {C : SP → SP} {d : Nat} {s : DevS} (hc : Ct A (Dev d s) R C := by repeat (first | with_reducible exact ct_here | apply ct_left)) {p : Nat} (hoff : s.off = false) (hpm : p + 2 ≤ s.ls.length * 64) :
    Fn Tryz.prog 60 #[.agg [Value.int .i64 (p : Nat)].toArray, .pointer (some ⟨d, 0, none⟩)] (A) (fun r B => r = .tuple #[.int .u16 ((nm (((imgS s).drop p).take 2) : Nat) : Int), .int .i64 0] ∧ A = B) := by
  refine fn_enterW (args := [.agg [Value.int .i64 (p : Nat)].toArray, .pointer (some ⟨d, 0, none⟩)]) Tryz.func60 rfl Tryz.ntmps60 (by simp) ?_; refine tc_have (fun _ _ h => ct_wf2 hc h) fun hw => ?_
  obtain ⟨rfl, hC⟩ := hc
  have htop := hw.top
  have hil : (imgS s).length = s.ls.length * 64 := imgS_len hw
  have hI : (((imgS s).drop p).take 2).length = 2 := by rw [List.length_take, List.length_drop]; omega
  have hIb := img_sub (s := s) (p := p) (n := 2)
  refine sr ?_; refine tl_x rfl (o_box rfl rfl) ?_; rintro _ _ ⟨b2, rfl, rfl⟩; refine tla ?_; refine tla ?_; refine nq ?_; refine sr ?_; refine tla ?_; refine nq ?_; refine tc_seq ?_; refine tc_regh mo dr_refl ?_
  show TH _ _ _ _ _ 12 #[ff,ff,ff,ff,ff,ff,ff,ff,ff,ff,ff,ff] _ _
  refine th_take (i := 0) (listed' := #[tt,ff,ff,ff,ff,ff,ff,ff,ff,ff,ff,ff]) rfl (by kernel_rfl) (by kernel_rfl) (by kernel_rfl) rfl rfl (o_move (by conv => lhs; whnf)) ?_; refine th_take (i := 1) (listed' := #[tt,tt,ff,ff,ff,ff,ff,ff,ff,ff,ff,ff]) rfl (by kernel_rfl) (by kernel_rfl) (by kernel_rfl) rfl rfl (o_fieldAddr (o := 0) Tryz.underlying94 rfl rfl sz3 rfl) ?_; refine th_take (i := 2) (listed' := #[tt,tt,tt,ff,ff,ff,ff,ff,ff,ff,ff,ff]) rfl (by kernel_rfl) (by kernel_rfl) (by kernel_rfl) rfl rfl (by first | exact o_load p3 rfl (by repeat (first | with_reducible exact has_here | with_reducible exact has_pt | apply has_left)) rfl | exact o_loadC p3 rfl (by assumption)) ?_; refine th_take (i := 3) (listed' := #[tt,tt,tt,tt,ff,ff,ff,ff,ff,ff,ff,ff]) rfl (by kernel_rfl) (by kernel_rfl) (by kernel_rfl) rfl rfl (o_move (by conv => lhs; whnf)) ?_; refine th_one (i := 4) (by kernel_rfl) ?_; refine oh_c (i := 4) (listed' := #[tt,tt,tt,tt,tt,ff,ff,ff,ff,ff,ff,ff]) rfl rfl rfl (o_call bd116 rfl (Put16_c (xs := []) (v := 0))) ?_; rintro _ _ ⟨a14, c14, rfl, hc14, rfl⟩; refine ⟨by repeat (first | with_reducible exact dr_refl | apply dr_keep | apply dr_drop), ?_⟩; refine th_take (i := 5) (listed' := #[tt,tt,tt,tt,tt,tt,ff,ff,ff,ff,ff,ff]) rfl (by kernel_rfl) (by kernel_rfl) (by kernel_rfl) rfl rfl (o_len Tryz.underlying32 rfl) ?_; refine th_one (i := 6) (by kernel_rfl) ?_; refine oh_c (i := 6) (listed' := #[tt,tt,tt,tt,tt,tt,tt,ff,ff,ff,ff,ff]) rfl rfl rfl (o_call bd74 rfl (Load_c (s := s) (p := p) (m := 2))) ?_
  rintro _ _ ⟨a16, c16, rfl, hc16, rfl⟩; refine ⟨by repeat (first | with_reducible exact dr_refl | apply dr_keep | apply dr_drop), ?_⟩; refine th_take (i := 7) (listed' := #[tt,tt,tt,tt,tt,tt,tt,tt,ff,ff,ff,ff]) rfl (by kernel_rfl) (by kernel_rfl) (by kernel_rfl) rfl rfl (o_move (by conv => lhs; whnf)) ?_; refine th_take (i := 8) (listed' := #[tt,tt,tt,tt,tt,tt,tt,tt,tt,ff,ff,ff]) rfl (by kernel_rfl) (by kernel_rfl) (by kernel_rfl) rfl rfl (o_extract rfl rfl) ?_; refine th_take (i := 9) (listed' := #[tt,tt,tt,tt,tt,tt,tt,tt,tt,tt,ff,ff]) rfl (by kernel_rfl) (by kernel_rfl) (by kernel_rfl) rfl rfl (o_extract rfl rfl) ?_; refine th_take (i := 10) (listed' := #[tt,tt,tt,tt,tt,tt,tt,tt,tt,tt,tt,ff]) rfl (by kernel_rfl) (by kernel_rfl) (by kernel_rfl) rfl rfl (o_assign (by conv => lhs; whnf)) ?_; refine th_take (i := 11) (listed' := #[tt,tt,tt,tt,tt,tt,tt,tt,tt,tt,tt,tt]) rfl (by kernel_rfl) (by kernel_rfl) (by kernel_rfl) rfl rfl (o_assign (by conv => lhs; whnf)) ?_; refine th_done (by kernel_rfl) ?_; refine q_then_n ?_; refine tc_seq ?_; refine sr ?_; refine tlm ?_; refine tv (o_nei rfl rfl) ?_; refine nq ?_; refine tc_cond rfl (fun h => ?_) (fun h => ?_)
  · exfalso; simp at h
  · try simp only [lv1, lv2, lv3, lv4, lv5, lv6, Bool.not_true, Bool.not_false] at h
    refine tc_skip ?_; refine q_then_n ?_; refine sr ?_; refine tlm ?_; refine tl_c rfl (o_call bd117 rfl (Take16_c (xs := ((imgS s).drop p).take 2) (p := 0) (hm := hI))) ?_; rintro _ _ ⟨rfl, rfl⟩; refine tv (o_extract rfl rfl) ?_; refine tv (o_extract rfl rfl) ?_; refine tla ?_; refine tla ?_; refine nq ?_; refine tc_ret ?_; exact ⟨.tuple #[.int .u16 ((nm (((imgS s).drop p).take 2) : Nat) : Int), .int .i64 0], R * Dev d s, res2 rfl (congrArg (fun z : Nat => Value.int .u16 (z : Int)) (nm_take0 _ _)) rfl, Dr.sat (by repeat (first | with_reducible exact dr_refl | apply dr_keep | apply dr_drop)), rfl, rfl⟩
set_option maxRecDepth 20000 in
set_option maxHeartbeats 1000000 in
theorem FL16_no {A R : SP} {C : SP → SP} {d : Nat} {s : DevS} (hc : Ct A (Dev d s) R C := by repeat (first | with_reducible exact ct_here | apply ct_left)) {p : Int} (hp : -9223372036854775808 ≤ p ∧ p ≤ 9223372036854775807 := by omega) (hno : rdy s.ls.length s.off p 2 ≠ 0) :
    Fn Tryz.prog 60 #[.agg [Value.int .i64 p].toArray, .pointer (some ⟨d, 0, none⟩)] (A) (fun r B => r = .tuple #[.int .u16 0, .int .i64 (rdy s.ls.length s.off p 2)] ∧ A = B) := by
  refine fn_enterW (args := [.agg [Value.int .i64 p].toArray, .pointer (some ⟨d, 0, none⟩)]) Tryz.func60 rfl Tryz.ntmps60 (by simp) ?_
  obtain ⟨rfl, hC⟩ := hc
  refine sr ?_; refine tl_x rfl (o_box rfl rfl) ?_; rintro _ _ ⟨b2, rfl, rfl⟩; refine tla ?_; refine tla ?_; refine nq ?_; refine sr ?_; refine tla ?_; refine nq ?_; refine tc_seq ?_; refine tc_regh mo dr_refl ?_
  show TH _ _ _ _ _ 12 #[ff,ff,ff,ff,ff,ff,ff,ff,ff,ff,ff,ff] _ _
  refine th_take (i := 0) (listed' := #[tt,ff,ff,ff,ff,ff,ff,ff,ff,ff,ff,ff]) rfl (by kernel_rfl) (by kernel_rfl) (by kernel_rfl) rfl rfl (o_move (by conv => lhs; whnf)) ?_; refine th_take (i := 1) (listed' := #[tt,tt,ff,ff,ff,ff,ff,ff,ff,ff,ff,ff]) rfl (by kernel_rfl) (by kernel_rfl) (by kernel_rfl) rfl rfl (o_fieldAddr (o := 0) Tryz.underlying94 rfl rfl sz3 rfl) ?_; refine th_take (i := 2) (listed' := #[tt,tt,tt,ff,ff,ff,ff,ff,ff,ff,ff,ff]) rfl (by kernel_rfl) (by kernel_rfl) (by kernel_rfl) rfl rfl (by first | exact o_load p3 rfl (by repeat (first | with_reducible exact has_here | with_reducible exact has_pt | apply has_left)) rfl | exact o_loadC p3 rfl (by assumption)) ?_; refine th_take (i := 3) (listed' := #[tt,tt,tt,tt,ff,ff,ff,ff,ff,ff,ff,ff]) rfl (by kernel_rfl) (by kernel_rfl) (by kernel_rfl) rfl rfl (o_move (by conv => lhs; whnf)) ?_; refine th_one (i := 4) (by kernel_rfl) ?_; refine oh_c (i := 4) (listed' := #[tt,tt,tt,tt,tt,ff,ff,ff,ff,ff,ff,ff]) rfl rfl rfl (o_call bd116 rfl (Put16_c (xs := []) (v := 0))) ?_; rintro _ _ ⟨a14, c14, rfl, hc14, rfl⟩; refine ⟨by repeat (first | with_reducible exact dr_refl | apply dr_keep | apply dr_drop), ?_⟩; refine th_take (i := 5) (listed' := #[tt,tt,tt,tt,tt,tt,ff,ff,ff,ff,ff,ff]) rfl (by kernel_rfl) (by kernel_rfl) (by kernel_rfl) rfl rfl (o_len Tryz.underlying32 rfl) ?_; refine th_one (i := 6) (by kernel_rfl) ?_; refine oh_c (i := 6) (listed' := #[tt,tt,tt,tt,tt,tt,tt,ff,ff,ff,ff,ff]) rfl rfl rfl (o_call bd74 rfl (LoadNo_c (s := s) (p := p) (m := 2))) ?_
  rintro _ _ ⟨rfl, rfl⟩; refine ⟨by repeat (first | with_reducible exact dr_refl | apply dr_keep | apply dr_drop), ?_⟩; refine th_take (i := 7) (listed' := #[tt,tt,tt,tt,tt,tt,tt,tt,ff,ff,ff,ff]) rfl (by kernel_rfl) (by kernel_rfl) (by kernel_rfl) rfl rfl (o_move (by conv => lhs; whnf)) ?_; refine th_take (i := 8) (listed' := #[tt,tt,tt,tt,tt,tt,tt,tt,tt,ff,ff,ff]) rfl (by kernel_rfl) (by kernel_rfl) (by kernel_rfl) rfl rfl (o_extract rfl rfl) ?_; refine th_take (i := 9) (listed' := #[tt,tt,tt,tt,tt,tt,tt,tt,tt,tt,ff,ff]) rfl (by kernel_rfl) (by kernel_rfl) (by kernel_rfl) rfl rfl (o_extract rfl rfl) ?_; refine th_take (i := 10) (listed' := #[tt,tt,tt,tt,tt,tt,tt,tt,tt,tt,tt,ff]) rfl (by kernel_rfl) (by kernel_rfl) (by kernel_rfl) rfl rfl (o_assign (by conv => lhs; whnf)) ?_; refine th_take (i := 11) (listed' := #[tt,tt,tt,tt,tt,tt,tt,tt,tt,tt,tt,tt]) rfl (by kernel_rfl) (by kernel_rfl) (by kernel_rfl) rfl rfl (o_assign (by conv => lhs; whnf)) ?_; refine th_done (by kernel_rfl) ?_; refine q_then_n ?_; refine tc_seq ?_; refine sr ?_; refine tlm ?_; refine tv (o_nei rfl rfl) ?_; refine nq ?_; refine tc_cond rfl (fun h => ?_) (fun h => ?_)
  · try simp only [lv1, lv2, lv3, lv4, lv5, lv6, Bool.not_true, Bool.not_false] at h
    refine sr ?_; refine tlm ?_; refine tla ?_; refine tla ?_; refine nq ?_; refine tc_ret ?_; refine q_then_r ?_; exact ⟨.tuple #[.int .u16 0, .int .i64 (rdy s.ls.length s.off p 2)], R * Dev d s, res2 rfl rfl rfl, Dr.sat (by repeat (first | with_reducible exact dr_refl | apply dr_keep | apply dr_drop)), rfl, rfl⟩
  · exfalso; exact hno (by simpa using h)
theorem FL16_c {A R : SP} {C : SP → SP} {d : Nat} {s : DevS} (hc : Ct A (Dev d s) R C := by repeat (first | with_reducible exact ct_here | apply ct_left)) {p : Int} (hp : -9223372036854775808 ≤ p ∧ p ≤ 9223372036854775807 := by omega) : Fn Tryz.prog 60 #[.agg [Value.int .i64 p].toArray, .pointer (some ⟨d, 0, none⟩)] A (fun r B => r = .tuple #[.int .u16 (((loadP p 2 s).1 : Nat) : Int), .int .i64 (loadP p 2 s).2] ∧ A = B) := by
  by_cases h : rdy s.ls.length s.off p 2 = 0
  · have h0 := rdy0 h
    obtain ⟨q, rfl⟩ := Int.eq_ofNat_of_zero_le h0.2.1
    have e : loadP (q : Int) 2 s = (nm (((imgS s).drop q).take 2), 0) := by unfold loadP; rw [if_neg (by simpa using h)]; rfl
    rw [e]; exact FL16_ok hc h0.1 (by omega)
  · have e : loadP p 2 s = (0, rdy s.ls.length s.off p 2) := by unfold loadP; rw [if_pos (by simpa using h)]; rfl
    rw [e]; exact FL16_no hc hp (by simpa using h)
theorem Put32_c {A : SP} {a : Option Addr} {c m : Nat} {xs : List Nat} {v : Nat} (hr : Rs A a (bys xs) := by repeat (first | assumption | with_reducible exact rs_sl | with_reducible exact rs_pt0 | exact rs_none | apply Rs.left)) (hm : xs.length = m := by first | assumption | rfl) (hv : v < 4294967296 := by omega) (hl : m ≤ 1099511627776 := by omega) :
    Fn Tryz.prog 126 #[.slice a m c, .int .u32 (v : Nat)] A (fun r B => ∃ a' c', r = .slice a' (m + 4) c' ∧ m + 4 ≤ c' ∧ B = A * Sl 1 (.slice a' (m + 4) c') (m + 4) (bys (xs ++ le 4 v))) := by
  subst hm; exact fn_rs hr fun hr => fn_sl ((Put32_f A a c xs v hr hv hl).mono fun _ _ ⟨u, e, h⟩ => by rw [e]; exact h)
theorem Take32_c {A : SP} {a : Option Addr} {c m : Nat} {xs : List Nat} {p : Nat} (hr : Rs A a (bys xs) := by repeat (first | assumption | with_reducible exact rs_sl | with_reducible exact rs_pt0 | exact rs_none | apply Rs.left)) (hb : ∀ x ∈ xs, x < 256 := by assumption) (hm : xs.length = m := by first | assumption | rfl) (hp : p + 4 ≤ m := by omega) (hl : m ≤ 1099511627776 := by omega) :
    Fn Tryz.prog 127 #[.slice a m c, .int .i64 (p : Nat)] A (fun r B => r = .tuple #[.int .u32 ((nm ((xs.drop p).take 4) : Nat) : Int), .int .i64 0] ∧ A = B) := by
  subst hm; exact fn_rs hr fun hr => Take32_f A a c xs p hb hr hp hl
set_option maxRecDepth 20000 in
set_option maxHeartbeats 1000000 in
theorem FL32_ok {A R : SP} {C : SP → SP} {d : Nat} {s : DevS} (hc : Ct A (Dev d s) R C := by repeat (first | with_reducible exact ct_here | apply ct_left)) {p : Nat} (hoff : s.off = false) (hpm : p + 4 ≤ s.ls.length * 64) :
    Fn Tryz.prog 88 #[.agg [Value.int .i64 (p : Nat)].toArray, .pointer (some ⟨d, 0, none⟩)] (A) (fun r B => r = .tuple #[.int .u32 ((nm (((imgS s).drop p).take 4) : Nat) : Int), .int .i64 0] ∧ A = B) := by
  refine fn_enterW (args := [.agg [Value.int .i64 (p : Nat)].toArray, .pointer (some ⟨d, 0, none⟩)]) Tryz.func88 rfl Tryz.ntmps88 (by simp) ?_; refine tc_have (fun _ _ h => ct_wf2 hc h) fun hw => ?_
  obtain ⟨rfl, hC⟩ := hc
  have htop := hw.top
  have hil : (imgS s).length = s.ls.length * 64 := imgS_len hw
  have hI : (((imgS s).drop p).take 4).length = 4 := by rw [List.length_take, List.length_drop]; omega
  have hIb := img_sub (s := s) (p := p) (n := 4)
  refine sr ?_; refine tl_x rfl (o_box rfl rfl) ?_; rintro _ _ ⟨b2, rfl, rfl⟩; refine tla ?_; refine tla ?_; refine nq ?_; refine sr ?_; refine tla ?_; refine nq ?_; refine tc_seq ?_; refine tc_regh mo dr_refl ?_
  show TH _ _ _ _ _ 12 #[ff,ff,ff,ff,ff,ff,ff,ff,ff,ff,ff,ff] _ _
  refine th_take (i := 0) (listed' := #[tt,ff,ff,ff,ff,ff,ff,ff,ff,ff,ff,ff]) rfl (by kernel_rfl) (by kernel_rfl) (by kernel_rfl) rfl rfl (o_move (by conv => lhs; whnf)) ?_; refine th_take (i := 1) (listed' := #[tt,tt,ff,ff,ff,ff,ff,ff,ff,ff,ff,ff]) rfl (by kernel_rfl) (by kernel_rfl) (by kernel_rfl) rfl rfl (o_fieldAddr (o := 0) Tryz.underlying128 rfl rfl sz3 rfl) ?_; refine th_take (i := 2) (listed' := #[tt,tt,tt,ff,ff,ff,ff,ff,ff,ff,ff,ff]) rfl (by kernel_rfl) (by kernel_rfl) (by kernel_rfl) rfl rfl (by first | exact o_load p3 rfl (by repeat (first | with_reducible exact has_here | with_reducible exact has_pt | apply has_left)) rfl | exact o_loadC p3 rfl (by assumption)) ?_; refine th_take (i := 3) (listed' := #[tt,tt,tt,tt,ff,ff,ff,ff,ff,ff,ff,ff]) rfl (by kernel_rfl) (by kernel_rfl) (by kernel_rfl) rfl rfl (o_move (by conv => lhs; whnf)) ?_; refine th_one (i := 4) (by kernel_rfl) ?_; refine oh_c (i := 4) (listed' := #[tt,tt,tt,tt,tt,ff,ff,ff,ff,ff,ff,ff]) rfl rfl rfl (o_call bd126 rfl (Put32_c (xs := []) (v := 0))) ?_; rintro _ _ ⟨a14, c14, rfl, hc14, rfl⟩; refine ⟨by repeat (first | with_reducible exact dr_refl | apply dr_keep | apply dr_drop), ?_⟩; refine th_take (i := 5) (listed' := #[tt,tt,tt,tt,tt,tt,ff,ff,ff,ff,ff,ff]) rfl (by kernel_rfl) (by kernel_rfl) (by kernel_rfl) rfl rfl (o_len Tryz.underlying32 rfl) ?_; refine th_one (i := 6) (by kernel_rfl) ?_; refine oh_c (i := 6) (listed' := #[tt,tt,tt,tt,tt,tt,tt,ff,ff,ff,ff,ff]) rfl rfl rfl (o_call bd74 rfl (Load_c (s := s) (p := p) (m := 4))) ?_
  rintro _ _ ⟨a16, c16, rfl, hc16, rfl⟩; refine ⟨by repeat (first | with_reducible exact dr_refl | apply dr_keep | apply dr_drop), ?_⟩; refine th_take (i := 7) (listed' := #[tt,tt,tt,tt,tt,tt,tt,tt,ff,ff,ff,ff]) rfl (by kernel_rfl) (by kernel_rfl) (by kernel_rfl) rfl rfl (o_move (by conv => lhs; whnf)) ?_; refine th_take (i := 8) (listed' := #[tt,tt,tt,tt,tt,tt,tt,tt,tt,ff,ff,ff]) rfl (by kernel_rfl) (by kernel_rfl) (by kernel_rfl) rfl rfl (o_extract rfl rfl) ?_; refine th_take (i := 9) (listed' := #[tt,tt,tt,tt,tt,tt,tt,tt,tt,tt,ff,ff]) rfl (by kernel_rfl) (by kernel_rfl) (by kernel_rfl) rfl rfl (o_extract rfl rfl) ?_; refine th_take (i := 10) (listed' := #[tt,tt,tt,tt,tt,tt,tt,tt,tt,tt,tt,ff]) rfl (by kernel_rfl) (by kernel_rfl) (by kernel_rfl) rfl rfl (o_assign (by conv => lhs; whnf)) ?_; refine th_take (i := 11) (listed' := #[tt,tt,tt,tt,tt,tt,tt,tt,tt,tt,tt,tt]) rfl (by kernel_rfl) (by kernel_rfl) (by kernel_rfl) rfl rfl (o_assign (by conv => lhs; whnf)) ?_; refine th_done (by kernel_rfl) ?_; refine q_then_n ?_; refine tc_seq ?_; refine sr ?_; refine tlm ?_; refine tv (o_nei rfl rfl) ?_; refine nq ?_; refine tc_cond rfl (fun h => ?_) (fun h => ?_)
  · exfalso; simp at h
  · try simp only [lv1, lv2, lv3, lv4, lv5, lv6, Bool.not_true, Bool.not_false] at h
    refine tc_skip ?_; refine q_then_n ?_; refine sr ?_; refine tlm ?_; refine tl_c rfl (o_call bd127 rfl (Take32_c (xs := ((imgS s).drop p).take 4) (p := 0) (hm := hI))) ?_; rintro _ _ ⟨rfl, rfl⟩; refine tv (o_extract rfl rfl) ?_; refine tv (o_extract rfl rfl) ?_; refine tla ?_; refine tla ?_; refine nq ?_; refine tc_ret ?_; exact ⟨.tuple #[.int .u32 ((nm (((imgS s).drop p).take 4) : Nat) : Int), .int .i64 0], R * Dev d s, res2 rfl (congrArg (fun z : Nat => Value.int .u32 (z : Int)) (nm_take0 _ _)) rfl, Dr.sat (by repeat (first | with_reducible exact dr_refl | apply dr_keep | apply dr_drop)), rfl, rfl⟩
set_option maxRecDepth 20000 in
set_option maxHeartbeats 1000000 in
theorem FL32_no {A R : SP} {C : SP → SP} {d : Nat} {s : DevS} (hc : Ct A (Dev d s) R C := by repeat (first | with_reducible exact ct_here | apply ct_left)) {p : Int} (hp : -9223372036854775808 ≤ p ∧ p ≤ 9223372036854775807 := by omega) (hno : rdy s.ls.length s.off p 4 ≠ 0) :
    Fn Tryz.prog 88 #[.agg [Value.int .i64 p].toArray, .pointer (some ⟨d, 0, none⟩)] (A) (fun r B => r = .tuple #[.int .u32 0, .int .i64 (rdy s.ls.length s.off p 4)] ∧ A = B) := by
  refine fn_enterW (args := [.agg [Value.int .i64 p].toArray, .pointer (some ⟨d, 0, none⟩)]) Tryz.func88 rfl Tryz.ntmps88 (by simp) ?_
  obtain ⟨rfl, hC⟩ := hc
  refine sr ?_; refine tl_x rfl (o_box rfl rfl) ?_; rintro _ _ ⟨b2, rfl, rfl⟩; refine tla ?_; refine tla ?_; refine nq ?_; refine sr ?_; refine tla ?_; refine nq ?_; refine tc_seq ?_; refine tc_regh mo dr_refl ?_
  show TH _ _ _ _ _ 12 #[ff,ff,ff,ff,ff,ff,ff,ff,ff,ff,ff,ff] _ _
  refine th_take (i := 0) (listed' := #[tt,ff,ff,ff,ff,ff,ff,ff,ff,ff,ff,ff]) rfl (by kernel_rfl) (by kernel_rfl) (by kernel_rfl) rfl rfl (o_move (by conv => lhs; whnf)) ?_; refine th_take (i := 1) (listed' := #[tt,tt,ff,ff,ff,ff,ff,ff,ff,ff,ff,ff]) rfl (by kernel_rfl) (by kernel_rfl) (by kernel_rfl) rfl rfl (o_fieldAddr (o := 0) Tryz.underlying128 rfl rfl sz3 rfl) ?_; refine th_take (i := 2) (listed' := #[tt,tt,tt,ff,ff,ff,ff,ff,ff,ff,ff,ff]) rfl (by kernel_rfl) (by kernel_rfl) (by kernel_rfl) rfl rfl (by first | exact o_load p3 rfl (by repeat (first | with_reducible exact has_here | with_reducible exact has_pt | apply has_left)) rfl | exact o_loadC p3 rfl (by assumption)) ?_; refine th_take (i := 3) (listed' := #[tt,tt,tt,tt,ff,ff,ff,ff,ff,ff,ff,ff]) rfl (by kernel_rfl) (by kernel_rfl) (by kernel_rfl) rfl rfl (o_move (by conv => lhs; whnf)) ?_; refine th_one (i := 4) (by kernel_rfl) ?_; refine oh_c (i := 4) (listed' := #[tt,tt,tt,tt,tt,ff,ff,ff,ff,ff,ff,ff]) rfl rfl rfl (o_call bd126 rfl (Put32_c (xs := []) (v := 0))) ?_; rintro _ _ ⟨a14, c14, rfl, hc14, rfl⟩; refine ⟨by repeat (first | with_reducible exact dr_refl | apply dr_keep | apply dr_drop), ?_⟩; refine th_take (i := 5) (listed' := #[tt,tt,tt,tt,tt,tt,ff,ff,ff,ff,ff,ff]) rfl (by kernel_rfl) (by kernel_rfl) (by kernel_rfl) rfl rfl (o_len Tryz.underlying32 rfl) ?_; refine th_one (i := 6) (by kernel_rfl) ?_; refine oh_c (i := 6) (listed' := #[tt,tt,tt,tt,tt,tt,tt,ff,ff,ff,ff,ff]) rfl rfl rfl (o_call bd74 rfl (LoadNo_c (s := s) (p := p) (m := 4))) ?_
  rintro _ _ ⟨rfl, rfl⟩; refine ⟨by repeat (first | with_reducible exact dr_refl | apply dr_keep | apply dr_drop), ?_⟩; refine th_take (i := 7) (listed' := #[tt,tt,tt,tt,tt,tt,tt,tt,ff,ff,ff,ff]) rfl (by kernel_rfl) (by kernel_rfl) (by kernel_rfl) rfl rfl (o_move (by conv => lhs; whnf)) ?_; refine th_take (i := 8) (listed' := #[tt,tt,tt,tt,tt,tt,tt,tt,tt,ff,ff,ff]) rfl (by kernel_rfl) (by kernel_rfl) (by kernel_rfl) rfl rfl (o_extract rfl rfl) ?_; refine th_take (i := 9) (listed' := #[tt,tt,tt,tt,tt,tt,tt,tt,tt,tt,ff,ff]) rfl (by kernel_rfl) (by kernel_rfl) (by kernel_rfl) rfl rfl (o_extract rfl rfl) ?_; refine th_take (i := 10) (listed' := #[tt,tt,tt,tt,tt,tt,tt,tt,tt,tt,tt,ff]) rfl (by kernel_rfl) (by kernel_rfl) (by kernel_rfl) rfl rfl (o_assign (by conv => lhs; whnf)) ?_; refine th_take (i := 11) (listed' := #[tt,tt,tt,tt,tt,tt,tt,tt,tt,tt,tt,tt]) rfl (by kernel_rfl) (by kernel_rfl) (by kernel_rfl) rfl rfl (o_assign (by conv => lhs; whnf)) ?_; refine th_done (by kernel_rfl) ?_; refine q_then_n ?_; refine tc_seq ?_; refine sr ?_; refine tlm ?_; refine tv (o_nei rfl rfl) ?_; refine nq ?_; refine tc_cond rfl (fun h => ?_) (fun h => ?_)
  · try simp only [lv1, lv2, lv3, lv4, lv5, lv6, Bool.not_true, Bool.not_false] at h
    refine sr ?_; refine tlm ?_; refine tla ?_; refine tla ?_; refine nq ?_; refine tc_ret ?_; refine q_then_r ?_; exact ⟨.tuple #[.int .u32 0, .int .i64 (rdy s.ls.length s.off p 4)], R * Dev d s, res2 rfl rfl rfl, Dr.sat (by repeat (first | with_reducible exact dr_refl | apply dr_keep | apply dr_drop)), rfl, rfl⟩
  · exfalso; exact hno (by simpa using h)
theorem FL32_c {A R : SP} {C : SP → SP} {d : Nat} {s : DevS} (hc : Ct A (Dev d s) R C := by repeat (first | with_reducible exact ct_here | apply ct_left)) {p : Int} (hp : -9223372036854775808 ≤ p ∧ p ≤ 9223372036854775807 := by omega) : Fn Tryz.prog 88 #[.agg [Value.int .i64 p].toArray, .pointer (some ⟨d, 0, none⟩)] A (fun r B => r = .tuple #[.int .u32 (((loadP p 4 s).1 : Nat) : Int), .int .i64 (loadP p 4 s).2] ∧ A = B) := by
  by_cases h : rdy s.ls.length s.off p 4 = 0
  · have h0 := rdy0 h
    obtain ⟨q, rfl⟩ := Int.eq_ofNat_of_zero_le h0.2.1
    have e : loadP (q : Int) 4 s = (nm (((imgS s).drop q).take 4), 0) := by unfold loadP; rw [if_neg (by simpa using h)]; rfl
    rw [e]; exact FL32_ok hc h0.1 (by omega)
  · have e : loadP p 4 s = (0, rdy s.ls.length s.off p 4) := by unfold loadP; rw [if_pos (by simpa using h)]; rfl
    rw [e]; exact FL32_no hc hp (by simpa using h)
set_option maxRecDepth 20000 in
set_option maxHeartbeats 1000000 in
theorem FL64_ok {A R : SP} {C : SP → SP} {d : Nat} {s : DevS} (hc : Ct A (Dev d s) R C := by repeat (first | with_reducible exact ct_here | apply ct_left)) {p : Nat} (hoff : s.off = false) (hpm : p + 8 ≤ s.ls.length * 64) :
    Fn Tryz.prog 86 #[.agg [Value.int .i64 (p : Nat)].toArray, .pointer (some ⟨d, 0, none⟩)] (A) (fun r B => r = .tuple #[.int .u64 ((nm (((imgS s).drop p).take 8) : Nat) : Int), .int .i64 0] ∧ A = B) := by
  refine fn_enterW (args := [.agg [Value.int .i64 (p : Nat)].toArray, .pointer (some ⟨d, 0, none⟩)]) Tryz.func86 rfl Tryz.ntmps86 (by simp) ?_; refine tc_have (fun _ _ h => ct_wf2 hc h) fun hw => ?_
  obtain ⟨rfl, hC⟩ := hc
  have htop := hw.top
  have hil : (imgS s).length = s.ls.length * 64 := imgS_len hw
  have hI : (((imgS s).drop p).take 8).length = 8 := by rw [List.length_take, List.length_drop]; omega
  have hIb := img_sub (s := s) (p := p) (n := 8)
  refine sr ?_; refine tl_x rfl (o_box rfl rfl) ?_; rintro _ _ ⟨b2, rfl, rfl⟩; refine tla ?_; refine tla ?_; refine nq ?_; refine sr ?_; refine tla ?_; refine nq ?_; refine tc_seq ?_; refine tc_regh mo dr_refl ?_
  show TH _ _ _ _ _ 12 #[ff,ff,ff,ff,ff,ff,ff,ff,ff,ff,ff,ff] _ _
  refine th_take (i := 0) (listed' := #[tt,ff,ff,ff,ff,ff,ff,ff,ff,ff,ff,ff]) rfl (by kernel_rfl) (by kernel_rfl) (by kernel_rfl) rfl rfl (o_move (by conv => lhs; whnf)) ?_; refine th_take (i := 1) (listed' := #[tt,tt,ff,ff,ff,ff,ff,ff,ff,ff,ff,ff]) rfl (by kernel_rfl) (by kernel_rfl) (by kernel_rfl) rfl rfl (o_fieldAddr (o := 0) Tryz.underlying122 rfl rfl sz3 rfl) ?_; refine th_take (i := 2) (listed' := #[tt,tt,tt,ff,ff,ff,ff,ff,ff,ff,ff,ff]) rfl (by kernel_rfl) (by kernel_rfl) (by kernel_rfl) rfl rfl (by first | exact o_load p3 rfl (by repeat (first | with_reducible exact has_here | with_reducible exact has_pt | apply has_left)) rfl | exact o_loadC p3 rfl (by assumption)) ?_; refine th_take (i := 3) (listed' := #[tt,tt,tt,tt,ff,ff,ff,ff,ff,ff,ff,ff]) rfl (by kernel_rfl) (by kernel_rfl) (by kernel_rfl) rfl rfl (o_move (by conv => lhs; whnf)) ?_; refine th_one (i := 4) (by kernel_rfl) ?_; refine oh_c (i := 4) (listed' := #[tt,tt,tt,tt,tt,ff,ff,ff,ff,ff,ff,ff]) rfl rfl rfl (o_call bd98 rfl (Put64_c (xs := []) (v := 0))) ?_; rintro _ _ ⟨a14, c14, rfl, hc14, rfl⟩; refine ⟨by repeat (first | with_reducible exact dr_refl | apply dr_keep | apply dr_drop), ?_⟩; refine th_take (i := 5) (listed' := #[tt,tt,tt,tt,tt,tt,ff,ff,ff,ff,ff,ff]) rfl (by kernel_rfl) (by kernel_rfl) (by kernel_rfl) rfl rfl (o_len Tryz.underlying32 rfl) ?_; refine th_one (i := 6) (by kernel_rfl) ?_; refine oh_c (i := 6) (listed' := #[tt,tt,tt,tt,tt,tt,tt,ff,ff,ff,ff,ff]) rfl rfl rfl (o_call bd74 rfl (Load_c (s := s) (p := p) (m := 8))) ?_
  rintro _ _ ⟨a16, c16, rfl, hc16, rfl⟩; refine ⟨by repeat (first | with_reducible exact dr_refl | apply dr_keep | apply dr_drop), ?_⟩; refine th_take (i := 7) (listed' := #[tt,tt,tt,tt,tt,tt,tt,tt,ff,ff,ff,ff]) rfl (by kernel_rfl) (by kernel_rfl) (by kernel_rfl) rfl rfl (o_move (by conv => lhs; whnf)) ?_; refine th_take (i := 8) (listed' := #[tt,tt,tt,tt,tt,tt,tt,tt,tt,ff,ff,ff]) rfl (by kernel_rfl) (by kernel_rfl) (by kernel_rfl) rfl rfl (o_extract rfl rfl) ?_; refine th_take (i := 9) (listed' := #[tt,tt,tt,tt,tt,tt,tt,tt,tt,tt,ff,ff]) rfl (by kernel_rfl) (by kernel_rfl) (by kernel_rfl) rfl rfl (o_extract rfl rfl) ?_; refine th_take (i := 10) (listed' := #[tt,tt,tt,tt,tt,tt,tt,tt,tt,tt,tt,ff]) rfl (by kernel_rfl) (by kernel_rfl) (by kernel_rfl) rfl rfl (o_assign (by conv => lhs; whnf)) ?_; refine th_take (i := 11) (listed' := #[tt,tt,tt,tt,tt,tt,tt,tt,tt,tt,tt,tt]) rfl (by kernel_rfl) (by kernel_rfl) (by kernel_rfl) rfl rfl (o_assign (by conv => lhs; whnf)) ?_; refine th_done (by kernel_rfl) ?_; refine q_then_n ?_; refine tc_seq ?_; refine sr ?_; refine tlm ?_; refine tv (o_nei rfl rfl) ?_; refine nq ?_; refine tc_cond rfl (fun h => ?_) (fun h => ?_)
  · exfalso; simp at h
  · try simp only [lv1, lv2, lv3, lv4, lv5, lv6, Bool.not_true, Bool.not_false] at h
    refine tc_skip ?_; refine q_then_n ?_; refine sr ?_; refine tlm ?_; refine tl_c rfl (o_call bd99 rfl (Take64_c (xs := ((imgS s).drop p).take 8) (p := 0) (hm := hI))) ?_; rintro _ _ ⟨rfl, rfl⟩; refine tv (o_extract rfl rfl) ?_; refine tv (o_extract rfl rfl) ?_; refine tla ?_; refine tla ?_; refine nq ?_; refine tc_ret ?_; exact ⟨.tuple #[.int .u64 ((nm (((imgS s).drop p).take 8) : Nat) : Int), .int .i64 0], R * Dev d s, res2 rfl (congrArg (fun z : Nat => Value.int .u64 (z : Int)) (nm_take0 _ _)) rfl, Dr.sat (by repeat (first | with_reducible exact dr_refl | apply dr_keep | apply dr_drop)), rfl, rfl⟩
set_option maxRecDepth 20000 in
set_option maxHeartbeats 1000000 in
theorem FL64_no {A R : SP} {C : SP → SP} {d : Nat} {s : DevS} (hc : Ct A (Dev d s) R C := by repeat (first | with_reducible exact ct_here | apply ct_left)) {p : Int} (hp : -9223372036854775808 ≤ p ∧ p ≤ 9223372036854775807 := by omega) (hno : rdy s.ls.length s.off p 8 ≠ 0) :
    Fn Tryz.prog 86 #[.agg [Value.int .i64 p].toArray, .pointer (some ⟨d, 0, none⟩)] (A) (fun r B => r = .tuple #[.int .u64 0, .int .i64 (rdy s.ls.length s.off p 8)] ∧ A = B) := by
  refine fn_enterW (args := [.agg [Value.int .i64 p].toArray, .pointer (some ⟨d, 0, none⟩)]) Tryz.func86 rfl Tryz.ntmps86 (by simp) ?_
  obtain ⟨rfl, hC⟩ := hc
  refine sr ?_; refine tl_x rfl (o_box rfl rfl) ?_; rintro _ _ ⟨b2, rfl, rfl⟩; refine tla ?_; refine tla ?_; refine nq ?_; refine sr ?_; refine tla ?_; refine nq ?_; refine tc_seq ?_; refine tc_regh mo dr_refl ?_
  show TH _ _ _ _ _ 12 #[ff,ff,ff,ff,ff,ff,ff,ff,ff,ff,ff,ff] _ _
  refine th_take (i := 0) (listed' := #[tt,ff,ff,ff,ff,ff,ff,ff,ff,ff,ff,ff]) rfl (by kernel_rfl) (by kernel_rfl) (by kernel_rfl) rfl rfl (o_move (by conv => lhs; whnf)) ?_; refine th_take (i := 1) (listed' := #[tt,tt,ff,ff,ff,ff,ff,ff,ff,ff,ff,ff]) rfl (by kernel_rfl) (by kernel_rfl) (by kernel_rfl) rfl rfl (o_fieldAddr (o := 0) Tryz.underlying122 rfl rfl sz3 rfl) ?_; refine th_take (i := 2) (listed' := #[tt,tt,tt,ff,ff,ff,ff,ff,ff,ff,ff,ff]) rfl (by kernel_rfl) (by kernel_rfl) (by kernel_rfl) rfl rfl (by first | exact o_load p3 rfl (by repeat (first | with_reducible exact has_here | with_reducible exact has_pt | apply has_left)) rfl | exact o_loadC p3 rfl (by assumption)) ?_; refine th_take (i := 3) (listed' := #[tt,tt,tt,tt,ff,ff,ff,ff,ff,ff,ff,ff]) rfl (by kernel_rfl) (by kernel_rfl) (by kernel_rfl) rfl rfl (o_move (by conv => lhs; whnf)) ?_; refine th_one (i := 4) (by kernel_rfl) ?_; refine oh_c (i := 4) (listed' := #[tt,tt,tt,tt,tt,ff,ff,ff,ff,ff,ff,ff]) rfl rfl rfl (o_call bd98 rfl (Put64_c (xs := []) (v := 0))) ?_; rintro _ _ ⟨a14, c14, rfl, hc14, rfl⟩; refine ⟨by repeat (first | with_reducible exact dr_refl | apply dr_keep | apply dr_drop), ?_⟩; refine th_take (i := 5) (listed' := #[tt,tt,tt,tt,tt,tt,ff,ff,ff,ff,ff,ff]) rfl (by kernel_rfl) (by kernel_rfl) (by kernel_rfl) rfl rfl (o_len Tryz.underlying32 rfl) ?_; refine th_one (i := 6) (by kernel_rfl) ?_; refine oh_c (i := 6) (listed' := #[tt,tt,tt,tt,tt,tt,tt,ff,ff,ff,ff,ff]) rfl rfl rfl (o_call bd74 rfl (LoadNo_c (s := s) (p := p) (m := 8))) ?_
  rintro _ _ ⟨rfl, rfl⟩; refine ⟨by repeat (first | with_reducible exact dr_refl | apply dr_keep | apply dr_drop), ?_⟩; refine th_take (i := 7) (listed' := #[tt,tt,tt,tt,tt,tt,tt,tt,ff,ff,ff,ff]) rfl (by kernel_rfl) (by kernel_rfl) (by kernel_rfl) rfl rfl (o_move (by conv => lhs; whnf)) ?_; refine th_take (i := 8) (listed' := #[tt,tt,tt,tt,tt,tt,tt,tt,tt,ff,ff,ff]) rfl (by kernel_rfl) (by kernel_rfl) (by kernel_rfl) rfl rfl (o_extract rfl rfl) ?_; refine th_take (i := 9) (listed' := #[tt,tt,tt,tt,tt,tt,tt,tt,tt,tt,ff,ff]) rfl (by kernel_rfl) (by kernel_rfl) (by kernel_rfl) rfl rfl (o_extract rfl rfl) ?_; refine th_take (i := 10) (listed' := #[tt,tt,tt,tt,tt,tt,tt,tt,tt,tt,tt,ff]) rfl (by kernel_rfl) (by kernel_rfl) (by kernel_rfl) rfl rfl (o_assign (by conv => lhs; whnf)) ?_; refine th_take (i := 11) (listed' := #[tt,tt,tt,tt,tt,tt,tt,tt,tt,tt,tt,tt]) rfl (by kernel_rfl) (by kernel_rfl) (by kernel_rfl) rfl rfl (o_assign (by conv => lhs; whnf)) ?_; refine th_done (by kernel_rfl) ?_; refine q_then_n ?_; refine tc_seq ?_; refine sr ?_; refine tlm ?_; refine tv (o_nei rfl rfl) ?_; refine nq ?_; refine tc_cond rfl (fun h => ?_) (fun h => ?_)
  · try simp only [lv1, lv2, lv3, lv4, lv5, lv6, Bool.not_true, Bool.not_false] at h
    refine sr ?_; refine tlm ?_; refine tla ?_; refine tla ?_; refine nq ?_; refine tc_ret ?_; refine q_then_r ?_; exact ⟨.tuple #[.int .u64 0, .int .i64 (rdy s.ls.length s.off p 8)], R * Dev d s, res2 rfl rfl rfl, Dr.sat (by repeat (first | with_reducible exact dr_refl | apply dr_keep | apply dr_drop)), rfl, rfl⟩
  · exfalso; exact hno (by simpa using h)
theorem FL64_c {A R : SP} {C : SP → SP} {d : Nat} {s : DevS} (hc : Ct A (Dev d s) R C := by repeat (first | with_reducible exact ct_here | apply ct_left)) {p : Int} (hp : -9223372036854775808 ≤ p ∧ p ≤ 9223372036854775807 := by omega) : Fn Tryz.prog 86 #[.agg [Value.int .i64 p].toArray, .pointer (some ⟨d, 0, none⟩)] A (fun r B => r = .tuple #[.int .u64 (((loadP p 8 s).1 : Nat) : Int), .int .i64 (loadP p 8 s).2] ∧ A = B) := by
  by_cases h : rdy s.ls.length s.off p 8 = 0
  · have h0 := rdy0 h
    obtain ⟨q, rfl⟩ := Int.eq_ofNat_of_zero_le h0.2.1
    have e : loadP (q : Int) 8 s = (nm (((imgS s).drop q).take 8), 0) := by unfold loadP; rw [if_neg (by simpa using h)]; rfl
    rw [e]; exact FL64_ok hc h0.1 (by omega)
  · have e : loadP p 8 s = (0, rdy s.ls.length s.off p 8) := by unfold loadP; rw [if_pos (by simpa using h)]; rfl
    rw [e]; exact FL64_no hc hp (by simpa using h)
set_option maxRecDepth 20000 in
set_option maxHeartbeats 1000000 in
theorem Word_c {A R : SP} {C : SP → SP} {d : Nat} {s : DevS} (hc : Ct A (Dev d s) R C := by repeat (first | with_reducible exact ct_here | apply ct_left)) {p : Int} (hp : -9223372036854775808 ≤ p ∧ p ≤ 9223372036854775807 := by omega) :
    Fn Tryz.prog 28 #[.pointer (some ⟨d, 0, none⟩), .int .i64 p] (A) (fun r B => r = .tuple #[.int .u64 (((wordP p s).1 : Nat) : Int), .int .i64 (wordP p s).2] ∧ A = B) := by
  refine fn_enterW (args := [.pointer (some ⟨d, 0, none⟩), .int .i64 p]) Tryz.func28 rfl Tryz.ntmps28 (by simp) ?_; refine sr ?_; refine tla ?_; refine tla ?_; refine nq ?_; refine tc_seq ?_; refine sr ?_; refine tlm ?_; refine tl_c rfl (o_call bd75 rfl (alive_c hc)) ?_; rintro _ _ ⟨rfl, rfl⟩; refine tla ?_; refine nq ?_; refine sr ?_; refine tlm ?_; refine tv (o_nei rfl rfl) ?_; refine nq ?_; refine tc_cond rfl (fun h => ?_) (fun h => ?_)
  · try simp only [lv1, lv2, lv3, lv4, lv5, lv6, Bool.not_true, Bool.not_false] at h
    refine sr ?_; refine tlm ?_; refine tla ?_; refine tla ?_; refine nq ?_; refine tc_ret ?_; refine q_then_r ?_
    have ho := stE_off h
    have e : wordP p s = (0, 5) := by unfold wordP; rw [if_pos ho]
    have e2 : stE s = 5 := by unfold stE; rw [if_pos ho]
    rw [e]
    exact ⟨.tuple #[.int .u64 0, .int .i64 5], A, res2 rfl rfl (congrArg (Value.int .i64) e2), fun _ _ h => h, rfl, rfl⟩
  · have ho : s.off = false := stE_on (by simpa using h)
    refine tc_skip ?_; refine q_then_n ?_; refine tc_seq ?_; refine sr ?_; refine tlm ?_; refine tv (o_rem rfl rfl (by decide)) ?_; refine tv (o_nei rfl rfl) ?_; refine nq ?_; refine tc_cond rfl (fun h => ?_) (fun h => ?_)
    · try simp only [lv1, lv2, lv3, lv4, lv5, lv6, Bool.not_true, Bool.not_false] at h
      refine sr ?_; refine tla ?_; refine tla ?_; refine nq ?_; refine tc_ret ?_; refine q_then_r ?_
      have e : wordP p s = (0, 6) := by unfold wordP; rw [if_neg (by rw [ho]; decide), if_pos (fun e => h (by rw [Int.tmod_eq_zero_of_dvd (Int.dvd_of_emod_eq_zero e)]))]
      rw [e]
      exact ⟨.tuple #[.int .u64 0, .int .i64 6], A, res2 rfl rfl rfl, fun _ _ h => h, rfl, rfl⟩
    · try simp only [lv1, lv2, lv3, lv4, lv5, lv6, Bool.not_true, Bool.not_false] at h
      refine tc_skip ?_; refine q_then_n ?_; refine sr ?_; refine tlm ?_; refine tv (o_bS (l := [Value.int .i64 p]) (pv_cons (by conv => lhs; whnf) pv_nil) Tryz.underlying122 z122 (pl122 Tryz.underlying122) rfl) ?_; refine tlm ?_; refine tl_c rfl (o_call bd86 rfl (FL64_c hc (p := p))) ?_; rintro _ _ ⟨rfl, rfl⟩; refine tv (o_extract rfl rfl) ?_; refine tv (o_extract rfl rfl) ?_; refine tla ?_; refine tla ?_; refine nq ?_; refine tc_ret ?_
      have e : wordP p s = loadP p 8 s := by unfold wordP; rw [if_neg (by rw [ho]; decide), if_neg (fun e => e (Int.emod_eq_zero_of_dvd (Int.dvd_of_tmod_eq_zero (by simpa using h))))]
      rw [e]
      exact ⟨_, A, res2 rfl rfl rfl, Dr.sat (by repeat (first | with_reducible exact dr_refl | apply dr_keep | apply dr_drop)), rfl, rfl⟩
set_option maxRecDepth 20000 in
set_option maxHeartbeats 1000000 in
theorem FS8_c {A R : SP} {C : SP → SP} {d : Nat} {s : DevS} (hc : Ct A (Dev d s) R C := by repeat (first | with_reducible exact ct_here | apply ct_left)) {p : Int} {v : Nat} (hp : -9223372036854775808 ≤ p ∧ p ≤ 9223372036854775807 := by omega) (hv : v < 256 := by omega) (hroom : rdy s.ls.length s.off p 1 = 0 → Room 1 s := by assumption) :
    Fn Tryz.prog 91 #[.agg [Value.int .i64 p].toArray, .pointer (some ⟨d, 0, none⟩), .int .u8 (v : Nat)] (A) (fun r B => ∃ e s2, bytesP p (le 1 v) s = (e, s2) ∧ r = .int .i64 e ∧ B = C (Dev d s2)) := by
  refine fn_enterW (args := [.agg [Value.int .i64 p].toArray, .pointer (some ⟨d, 0, none⟩), .int .u8 (v : Nat)]) Tryz.func91 rfl Tryz.ntmps91 (by simp) ?_
  obtain ⟨rfl, hC⟩ := hc
  refine sr ?_; refine tl_x rfl (o_box rfl rfl) ?_; rintro _ _ ⟨b3, rfl, rfl⟩; refine tla ?_; refine nq ?_; refine tc_seq ?_; refine tc_regh (S := R * pt b3 (cl [.int .i64 p] 124)) mo (by repeat (first | with_reducible exact dr_refl | apply dr_keep | apply dr_drop)) ?_
  show TH _ _ _ _ _ 7 #[ff,ff,ff,ff,ff,ff,ff] _ _
  refine th_take (i := 0) (listed' := #[tt,ff,ff,ff,ff,ff,ff]) rfl (by kernel_rfl) (by kernel_rfl) (by kernel_rfl) rfl rfl (o_move (by conv => lhs; whnf)) ?_; refine th_take (i := 1) (listed' := #[tt,tt,ff,ff,ff,ff,ff]) rfl (by kernel_rfl) (by kernel_rfl) (by kernel_rfl) rfl rfl (o_fieldAddr (o := 0) Tryz.underlying124 rfl rfl sz3 rfl) ?_; refine th_take (i := 2) (listed' := #[tt,tt,tt,ff,ff,ff,ff]) rfl (by kernel_rfl) (by kernel_rfl) (by kernel_rfl) rfl rfl (by first | exact o_load p3 rfl (by repeat (first | with_reducible exact has_here | with_reducible exact has_pt | apply has_left)) rfl | exact o_loadC p3 rfl (by assumption)) ?_; refine th_take (i := 3) (listed' := #[tt,tt,tt,tt,ff,ff,ff]) rfl (by kernel_rfl) (by kernel_rfl) (by kernel_rfl) rfl rfl (o_move (by conv => lhs; whnf)) ?_; refine th_one (i := 4) (by kernel_rfl) ?_; refine oh_c (i := 4) (listed' := #[tt,tt,tt,tt,tt,ff,ff]) rfl rfl rfl (o_call bd124 rfl (Put8_c (xs := []) (v := v))) ?_; rintro _ _ ⟨a11, c11, rfl, hc11, rfl⟩; refine ⟨by repeat (first | with_reducible exact dr_refl | apply dr_keep | apply dr_drop), ?_⟩; refine th_one (i := 5) (by kernel_rfl) ?_; refine oh_c (i := 5) (listed' := #[tt,tt,tt,tt,tt,tt,ff]) rfl rfl rfl (o_call bd59 rfl (Bytes_c (s := s) (p := p) (xs := le 1 v) (hr := rs_sl) (hm := le_length _ _) (hb := le_bytes _ _))) ?_; rintro _ _ ⟨e12, s12, hs12, rfl, rfl⟩; refine ⟨by repeat (first | with_reducible exact dr_refl | apply dr_keep | apply dr_drop), ?_⟩; refine th_take (i := 6) (listed' := #[tt,tt,tt,tt,tt,tt,tt]) rfl (by kernel_rfl) (by kernel_rfl) (by kernel_rfl) rfl rfl (o_assign (by conv => lhs; whnf)) ?_
  refine th_done (by kernel_rfl) ?_; refine q_then_n ?_; refine tc_ret ?_; exact ⟨.int .i64 e12, C (Dev d s12), res1 rfl rfl, fun _ _ h => by rw [hC]; exact (Dr.sat (A' := R * Dev d s12) (by repeat (first | with_reducible exact dr_refl | apply dr_keep | apply dr_drop))) _ _ h, e12, s12, hs12, rfl, rfl⟩
set_option maxRecDepth 20000 in
set_option maxHeartbeats 1000000 in
theorem FS16_c {A R : SP} {C : SP → SP} {d : Nat} {s : DevS} (hc : Ct A (Dev d s) R C := by repeat (first | with_reducible exact ct_here | apply ct_left)) {p : Int} {v : Nat} (hp : -9223372036854775808 ≤ p ∧ p ≤ 9223372036854775807 := by omega) (hv : v < 65536 := by omega) (hroom : rdy s.ls.length s.off p 2 = 0 → Room 2 s := by assumption) :
    Fn Tryz.prog 92 #[.agg [Value.int .i64 p].toArray, .pointer (some ⟨d, 0, none⟩), .int .u16 (v : Nat)] (A) (fun r B => ∃ e s2, bytesP p (le 2 v) s = (e, s2) ∧ r = .int .i64 e ∧ B = C (Dev d s2)) := by
  refine fn_enterW (args := [.agg [Value.int .i64 p].toArray, .pointer (some ⟨d, 0, none⟩), .int .u16 (v : Nat)]) Tryz.func92 rfl Tryz.ntmps92 (by simp) ?_
  obtain ⟨rfl, hC⟩ := hc
  refine sr ?_; refine tl_x rfl (o_box rfl rfl) ?_; rintro _ _ ⟨b3, rfl, rfl⟩; refine tla ?_; refine nq ?_; refine tc_seq ?_; refine tc_regh (S := R * pt b3 (cl [.int .i64 p] 94)) mo (by repeat (first | with_reducible exact dr_refl | apply dr_keep | apply dr_drop)) ?_
  show TH _ _ _ _ _ 7 #[ff,ff,ff,ff,ff,ff,ff] _ _
  refine th_take (i := 0) (listed' := #[tt,ff,ff,ff,ff,ff,ff]) rfl (by kernel_rfl) (by kernel_rfl) (by kernel_rfl) rfl rfl (o_move (by conv => lhs; whnf)) ?_; refine th_take (i := 1) (listed' := #[tt,tt,ff,ff,ff,ff,ff]) rfl (by kernel_rfl) (by kernel_rfl) (by kernel_rfl) rfl rfl (o_fieldAddr (o := 0) Tryz.underlying94 rfl rfl sz3 rfl) ?_; refine th_take (i := 2) (listed' := #[tt,tt,tt,ff,ff,ff,ff]) rfl (by kernel_rfl) (by kernel_rfl) (by kernel_rfl) rfl rfl (by first | exact o_load p3 rfl (by repeat (first | with_reducible exact has_here | with_reducible exact has_pt | apply has_left)) rfl | exact o_loadC p3 rfl (by assumption)) ?_; refine th_take (i := 3) (listed' := #[tt,tt,tt,tt,ff,ff,ff]) rfl (by kernel_rfl) (by kernel_rfl) (by kernel_rfl) rfl rfl (o_move (by conv => lhs; whnf)) ?_; refine th_one (i := 4) (by kernel_rfl) ?_; refine oh_c (i := 4) (listed' := #[tt,tt,tt,tt,tt,ff,ff]) rfl rfl rfl (o_call bd116 rfl (Put16_c (xs := []) (v := v))) ?_; rintro _ _ ⟨a11, c11, rfl, hc11, rfl⟩; refine ⟨by repeat (first | with_reducible exact dr_refl | apply dr_keep | apply dr_drop), ?_⟩; refine th_one (i := 5) (by kernel_rfl) ?_; refine oh_c (i := 5) (listed' := #[tt,tt,tt,tt,tt,tt,ff]) rfl rfl rfl (o_call bd59 rfl (Bytes_c (s := s) (p := p) (xs := le 2 v) (hr := rs_sl) (hm := le_length _ _) (hb := le_bytes _ _))) ?_; rintro _ _ ⟨e12, s12, hs12, rfl, rfl⟩; refine ⟨by repeat (first | with_reducible exact dr_refl | apply dr_keep | apply dr_drop), ?_⟩; refine th_take (i := 6) (listed' := #[tt,tt,tt,tt,tt,tt,tt]) rfl (by kernel_rfl) (by kernel_rfl) (by kernel_rfl) rfl rfl (o_assign (by conv => lhs; whnf)) ?_
  refine th_done (by kernel_rfl) ?_; refine q_then_n ?_; refine tc_ret ?_; exact ⟨.int .i64 e12, C (Dev d s12), res1 rfl rfl, fun _ _ h => by rw [hC]; exact (Dr.sat (A' := R * Dev d s12) (by repeat (first | with_reducible exact dr_refl | apply dr_keep | apply dr_drop))) _ _ h, e12, s12, hs12, rfl, rfl⟩
set_option maxRecDepth 20000 in
set_option maxHeartbeats 1000000 in
theorem FS32_c {A R : SP} {C : SP → SP} {d : Nat} {s : DevS} (hc : Ct A (Dev d s) R C := by repeat (first | with_reducible exact ct_here | apply ct_left)) {p : Int} {v : Nat} (hp : -9223372036854775808 ≤ p ∧ p ≤ 9223372036854775807 := by omega) (hv : v < 4294967296 := by omega) (hroom : rdy s.ls.length s.off p 4 = 0 → Room 4 s := by assumption) :
    Fn Tryz.prog 93 #[.agg [Value.int .i64 p].toArray, .pointer (some ⟨d, 0, none⟩), .int .u32 (v : Nat)] (A) (fun r B => ∃ e s2, bytesP p (le 4 v) s = (e, s2) ∧ r = .int .i64 e ∧ B = C (Dev d s2)) := by
  refine fn_enterW (args := [.agg [Value.int .i64 p].toArray, .pointer (some ⟨d, 0, none⟩), .int .u32 (v : Nat)]) Tryz.func93 rfl Tryz.ntmps93 (by simp) ?_
  obtain ⟨rfl, hC⟩ := hc
  refine sr ?_; refine tl_x rfl (o_box rfl rfl) ?_; rintro _ _ ⟨b3, rfl, rfl⟩; refine tla ?_; refine nq ?_; refine tc_seq ?_; refine tc_regh (S := R * pt b3 (cl [.int .i64 p] 128)) mo (by repeat (first | with_reducible exact dr_refl | apply dr_keep | apply dr_drop)) ?_
  show TH _ _ _ _ _ 7 #[ff,ff,ff,ff,ff,ff,ff] _ _
  refine th_take (i := 0) (listed' := #[tt,ff,ff,ff,ff,ff,ff]) rfl (by kernel_rfl) (by kernel_rfl) (by kernel_rfl) rfl rfl (o_move (by conv => lhs; whnf)) ?_; refine th_take (i := 1) (listed' := #[tt,tt,ff,ff,ff,ff,ff]) rfl (by kernel_rfl) (by kernel_rfl) (by kernel_rfl) rfl rfl (o_fieldAddr (o := 0) Tryz.underlying128 rfl rfl sz3 rfl) ?_; refine th_take (i := 2) (listed' := #[tt,tt,tt,ff,ff,ff,ff]) rfl (by kernel_rfl) (by kernel_rfl) (by kernel_rfl) rfl rfl (by first | exact o_load p3 rfl (by repeat (first | with_reducible exact has_here | with_reducible exact has_pt | apply has_left)) rfl | exact o_loadC p3 rfl (by assumption)) ?_; refine th_take (i := 3) (listed' := #[tt,tt,tt,tt,ff,ff,ff]) rfl (by kernel_rfl) (by kernel_rfl) (by kernel_rfl) rfl rfl (o_move (by conv => lhs; whnf)) ?_; refine th_one (i := 4) (by kernel_rfl) ?_; refine oh_c (i := 4) (listed' := #[tt,tt,tt,tt,tt,ff,ff]) rfl rfl rfl (o_call bd126 rfl (Put32_c (xs := []) (v := v))) ?_; rintro _ _ ⟨a11, c11, rfl, hc11, rfl⟩; refine ⟨by repeat (first | with_reducible exact dr_refl | apply dr_keep | apply dr_drop), ?_⟩; refine th_one (i := 5) (by kernel_rfl) ?_; refine oh_c (i := 5) (listed' := #[tt,tt,tt,tt,tt,tt,ff]) rfl rfl rfl (o_call bd59 rfl (Bytes_c (s := s) (p := p) (xs := le 4 v) (hr := rs_sl) (hm := le_length _ _) (hb := le_bytes _ _))) ?_; rintro _ _ ⟨e12, s12, hs12, rfl, rfl⟩; refine ⟨by repeat (first | with_reducible exact dr_refl | apply dr_keep | apply dr_drop), ?_⟩; refine th_take (i := 6) (listed' := #[tt,tt,tt,tt,tt,tt,tt]) rfl (by kernel_rfl) (by kernel_rfl) (by kernel_rfl) rfl rfl (o_assign (by conv => lhs; whnf)) ?_
  refine th_done (by kernel_rfl) ?_; refine q_then_n ?_; refine tc_ret ?_; exact ⟨.int .i64 e12, C (Dev d s12), res1 rfl rfl, fun _ _ h => by rw [hC]; exact (Dr.sat (A' := R * Dev d s12) (by repeat (first | with_reducible exact dr_refl | apply dr_keep | apply dr_drop))) _ _ h, e12, s12, hs12, rfl, rfl⟩
set_option maxRecDepth 20000 in
set_option maxHeartbeats 1000000 in
theorem FS64_c {A R : SP} {C : SP → SP} {d : Nat} {s : DevS} (hc : Ct A (Dev d s) R C := by repeat (first | with_reducible exact ct_here | apply ct_left)) {p : Int} {v : Nat} (hp : -9223372036854775808 ≤ p ∧ p ≤ 9223372036854775807 := by omega) (hv : v < 18446744073709551616 := by omega) (hroom : rdy s.ls.length s.off p 8 = 0 → Room 8 s := by assumption) :
    Fn Tryz.prog 94 #[.agg [Value.int .i64 p].toArray, .pointer (some ⟨d, 0, none⟩), .int .u64 (v : Nat)] (A) (fun r B => ∃ e s2, bytesP p (le 8 v) s = (e, s2) ∧ r = .int .i64 e ∧ B = C (Dev d s2)) := by
  refine fn_enterW (args := [.agg [Value.int .i64 p].toArray, .pointer (some ⟨d, 0, none⟩), .int .u64 (v : Nat)]) Tryz.func94 rfl Tryz.ntmps94 (by simp) ?_
  obtain ⟨rfl, hC⟩ := hc
  refine sr ?_; refine tl_x rfl (o_box rfl rfl) ?_; rintro _ _ ⟨b3, rfl, rfl⟩; refine tla ?_; refine nq ?_; refine tc_seq ?_; refine tc_regh (S := R * pt b3 (cl [.int .i64 p] 122)) mo (by repeat (first | with_reducible exact dr_refl | apply dr_keep | apply dr_drop)) ?_
  show TH _ _ _ _ _ 7 #[ff,ff,ff,ff,ff,ff,ff] _ _
  refine th_take (i := 0) (listed' := #[tt,ff,ff,ff,ff,ff,ff]) rfl (by kernel_rfl) (by kernel_rfl) (by kernel_rfl) rfl rfl (o_move (by conv => lhs; whnf)) ?_; refine th_take (i := 1) (listed' := #[tt,tt,ff,ff,ff,ff,ff]) rfl (by kernel_rfl) (by kernel_rfl) (by kernel_rfl) rfl rfl (o_fieldAddr (o := 0) Tryz.underlying122 rfl rfl sz3 rfl) ?_; refine th_take (i := 2) (listed' := #[tt,tt,tt,ff,ff,ff,ff]) rfl (by kernel_rfl) (by kernel_rfl) (by kernel_rfl) rfl rfl (by first | exact o_load p3 rfl (by repeat (first | with_reducible exact has_here | with_reducible exact has_pt | apply has_left)) rfl | exact o_loadC p3 rfl (by assumption)) ?_; refine th_take (i := 3) (listed' := #[tt,tt,tt,tt,ff,ff,ff]) rfl (by kernel_rfl) (by kernel_rfl) (by kernel_rfl) rfl rfl (o_move (by conv => lhs; whnf)) ?_; refine th_one (i := 4) (by kernel_rfl) ?_; refine oh_c (i := 4) (listed' := #[tt,tt,tt,tt,tt,ff,ff]) rfl rfl rfl (o_call bd98 rfl (Put64_c (xs := []) (v := v))) ?_; rintro _ _ ⟨a11, c11, rfl, hc11, rfl⟩; refine ⟨by repeat (first | with_reducible exact dr_refl | apply dr_keep | apply dr_drop), ?_⟩; refine th_one (i := 5) (by kernel_rfl) ?_; refine oh_c (i := 5) (listed' := #[tt,tt,tt,tt,tt,tt,ff]) rfl rfl rfl (o_call bd59 rfl (Bytes_c (s := s) (p := p) (xs := le 8 v) (hr := rs_sl) (hm := le_length _ _) (hb := le_bytes _ _))) ?_; rintro _ _ ⟨e12, s12, hs12, rfl, rfl⟩; refine ⟨by repeat (first | with_reducible exact dr_refl | apply dr_keep | apply dr_drop), ?_⟩; refine th_take (i := 6) (listed' := #[tt,tt,tt,tt,tt,tt,tt]) rfl (by kernel_rfl) (by kernel_rfl) (by kernel_rfl) rfl rfl (o_assign (by conv => lhs; whnf)) ?_
  refine th_done (by kernel_rfl) ?_; refine q_then_n ?_; refine tc_ret ?_; exact ⟨.int .i64 e12, C (Dev d s12), res1 rfl rfl, fun _ _ h => by rw [hC]; exact (Dr.sat (A' := R * Dev d s12) (by repeat (first | with_reducible exact dr_refl | apply dr_keep | apply dr_drop))) _ _ h, e12, s12, hs12, rfl, rfl⟩
end Go.Vl

set_option linter.unusedVariables false
set_option linter.unusedSimpArgs false
namespace Go.Vl
open Go Go.Proofs
theorem Foc.words {A A' : SP} {hvs : List Value} {held : List (List Nat)} (h : Foc A (Words hvs held) (Words hvs held) A') (hl : hvs.length = held.length) {g : Gh} {w : World} (hs : sat g w A) :
    ∀ i (hi : i < held.length), ∃ a c, hvs[i]? = some (.slice a held[i].length c) ∧ Rd A a (wds held[i]) := fun i hi => by
  obtain ⟨R, hA, _⟩ := h
  obtain ⟨S, h1, _⟩ := words_get hl hi
  rw [h1, ← star_assoc] at hA
  obtain ⟨a, c, e, _, _, hr⟩ := sl_have' hA hs
  exact ⟨a, c, by rw [List.getElem?_eq_getElem (by omega), e], hr⟩
/-- What PmemLasts looks at, of a book and a device behind a loss of power. -/
structure Lasts (P : PlS) (s2 : DevS) : Prop where
  len : s2.ls.length = P.marks.length
  wf : WfD s2
  wfp : WfD P.s
  seen : ∀ i (h : i < P.seen.length), nm (((imgS P.s).drop (8 * i)).take 8) = P.seen[i]
  held : ∀ i (h : i < P.held.length), nm (((imgS s2).drop (8 * i)).take 8) ∈ P.held[i]
  last : ∀ i (h : i < P.sure.length) (h' : i < P.last.length), P.sure[i] = true → nm (((imgS s2).drop (8 * i)).take 8) = P.last[i]
end Go.Vl

set_option linter.unusedVariables false
set_option linter.unusedSimpArgs false
namespace Go.Vl
open Go Go.Proofs
/-- The book tells the device. -/
structure InvL (P : PlS) (w : Nat) (l : LineS) : Prop where
  seen : (seenL l).getD (w % 8) 0 = P.seen.getD w 0
  held : ∀ σ ∈ l.st, σ.getD (w % 8) 0 ∈ P.held.getD w []
  last : P.sure.getD w false = true → ∀ σ ∈ l.st, σ.getD (w % 8) 0 = P.last.getD w 0
  mark : P.marks.getD (w / 8) 0 = 1 → l.mark = (l.st.length : Int) - 1
def Inv (P : PlS) : Prop := ∀ w l, w < P.seen.length → P.s.ls[w / 8]? = some l → InvL P w l
end Go.Vl

set_option linter.unusedVariables false
set_option linter.unusedSimpArgs false
namespace Go.Vl
open Go Go.Proofs
instance : Inhabited StepC := ⟨⟨0, 0, .bool false, 0, .bool false, .bool false, .bool false⟩⟩
end Go.Vl

set_option linter.unusedVariables false
set_option linter.unusedSimpArgs false
namespace Go.Vl
open Go Go.Proofs
attribute [local irreducible] Sl pt ro
theorem rin9_f (A : SP) {r : Nat} {lv av : Value} {rls : List RL} {s : DevS} (hR : RdevR A r lv rls av s) {p m : Int} (hp : -9223372036854775808 ≤ p ∧ p ≤ 9223372036854775807) (hm : 0 ≤ m ∧ m ≤ 9223372036854775807) :
    Fn Tryz.prog 78 #[.pointer (some ⟨r, 0, none⟩), .int .i64 p, .int .i64 m] (A) (fun v B => v = .bool (decide (rdy s.ls.length false p m = 0)) ∧ A = B) := by
  refine fn_enterW (args := [.pointer (some ⟨r, 0, none⟩), .int .i64 p, .int .i64 m]) Tryz.func78 rfl Tryz.ntmps78 (by simp) ?_
  have htop := hR.wf.top
  refine sr ?_; refine tla ?_; refine nq ?_; refine sr ?_; refine tlm ?_; refine tv (o_geq rfl rfl) ?_; refine tlm ?_; refine tl_bool (d := 9) rfl (fun h => ?_) (fun h => ?_)
  · try simp only [lv1, lv2, lv3, lv4, lv5, lv6, Bool.not_true, Bool.not_false] at h
    refine tlm ?_; refine tlm ?_; refine tv (o_nilCheck rfl) ?_; refine tv (o_fieldAddr (o := 0) Tryz.underlying114 rfl rfl sz3 rfl) ?_; refine tv (o_ldP (a := some ⟨r, 0, none⟩) (i := 0) p3 rfl (by repeat (first | exact hR.d | apply Rs.left)) rfl) ?_; refine tv (o_leq rfl rfl) ?_; refine tv (o_pick_t rfl (by conv => lhs; whnf)) ?_; refine tlm ?_; refine tl_bool (d := 17) rfl (fun h => ?_) (fun h => ?_)
    · try simp only [lv1, lv2, lv3, lv4, lv5, lv6, Bool.not_true, Bool.not_false] at h
      refine tlm ?_; refine tlm ?_; refine tv (o_nilCheck rfl) ?_; refine tv (o_fieldAddr (o := 0) Tryz.underlying114 rfl rfl sz3 rfl) ?_; refine tv (o_ldP (a := some ⟨r, 0, none⟩) (i := 0) p3 rfl (by repeat (first | exact hR.d | apply Rs.left)) rfl) ?_; refine tlm ?_; refine tv (by first | exact o_subI rfl rfl (by omega) | exact o_sub rfl rfl) ?_; refine tv (o_leq rfl rfl) ?_; refine tv (o_pick_t rfl (by conv => lhs; whnf)) ?_; refine tla ?_; refine nq ?_; refine tc_ret ?_; refine ⟨.bool (decide (m ≤ ((s.ls.length * 64 : Nat) : Int) - p)), _, res1 rfl rfl, ?_, (by congr 1; rw [decide_eq_decide]; unfold rdy; rw [if_neg (by decide)]; split <;> constructor <;> intro _ <;> omega), rfl⟩; exact Dr.sat (by repeat (first | with_reducible exact dr_refl | apply dr_keep | apply dr_drop))
    · try simp only [lv1, lv2, lv3, lv4, lv5, lv6, Bool.not_true, Bool.not_false] at h
      refine tk ?_; refine tk ?_; refine tk ?_; refine tk ?_; refine tk ?_; refine tk ?_; refine tk ?_; refine tk ?_; refine tv (o_pick_f rfl (by conv => lhs; whnf)) ?_; refine tla ?_; refine nq ?_; refine tc_ret ?_; refine ⟨.bool false, _, res1 rfl rfl, ?_, (by rw [decide_eq_false]; unfold rdy; rw [if_neg (by decide), if_pos (by omega)]; decide), rfl⟩; exact Dr.sat (by repeat (first | with_reducible exact dr_refl | apply dr_keep | apply dr_drop))
  · try simp only [lv1, lv2, lv3, lv4, lv5, lv6, Bool.not_true, Bool.not_false] at h
    refine tk ?_; refine tk ?_; refine tk ?_; refine tk ?_; refine tk ?_; refine tk ?_; refine tv (o_pick_f rfl (by conv => lhs; whnf)) ?_; refine tlm ?_; refine tk ?_; refine tk ?_; refine tk ?_; refine tk ?_; refine tk ?_; refine tk ?_; refine tk ?_; refine tk ?_; refine tv (o_pick_f rfl (by conv => lhs; whnf)) ?_; refine tla ?_; refine nq ?_; refine tc_ret ?_; refine ⟨.bool false, _, res1 rfl rfl, ?_, (by rw [decide_eq_false]; unfold rdy; rw [if_neg (by decide), if_pos (by omega)]; decide), rfl⟩; exact Dr.sat (by repeat (first | with_reducible exact dr_refl | apply dr_keep | apply dr_drop))
theorem rin9_c {A R : SP} {C : SP → SP} {r : Nat} {s : DevS} (hc : Ct A (RDev r s) R C := by repeat (first | with_reducible exact ct_here | apply ct_left)) {p m : Int} (hp : -9223372036854775808 ≤ p ∧ p ≤ 9223372036854775807 := by omega) (hm : 0 ≤ m ∧ m ≤ 9223372036854775807 := by omega) :
    Fn Tryz.prog 78 #[.pointer (some ⟨r, 0, none⟩), .int .i64 p, .int .i64 m] A (fun v B => v = .bool (decide (rdy s.ls.length false p m = 0)) ∧ A = B) := by
  obtain ⟨rfl, hC⟩ := hc
  exact fn_rdevR0 fun A lv rls av hR => rin9_f A hR hp hm
theorem flF_s1 {k k' q : Nat} {s s2 : DevS} (h : fl1 ((q * 64 : Nat) : Int) s = (0, s2)) (hk : k = k' + 1) : flF k q s = flF k' (q + 1) s2 := by
  subst hk; show (if _ then _ else _) = _; rw [h, if_neg (by simp)]
theorem flF_s2 {k k' q : Nat} {s s2 : DevS} {e : Int} (h : fl1 ((q * 64 : Nat) : Int) s = (e, s2)) (he : e ≠ 0) (hk : k = k' + 1) : flF k q s = (e, s2) := by
  subst hk; show (if _ then _ else _) = _; rw [h, if_pos he]
theorem wfR_ct {A R : SP} {C : SP → SP} {r : Nat} {s : DevS} (hc : Ct A (RDev r s) R C) {g : Gh} {w : World} (hs : sat g w A) : WfD s := by
  obtain ⟨rfl, _⟩ := hc; exact (rdev_iff.1 hs).1
theorem rlast_c {A R : SP} {C : SP → SP} {r : Nat} {s : DevS} (hc : Ct A (RDev r s) R C := by repeat (first | with_reducible exact ct_here | apply ct_left)) {p m : Nat} (h1 : 1 ≤ m := by omega) (hpm : p + m ≤ s.ls.length * 64 := by omega) :
    Fn Tryz.prog 79 #[.pointer (some ⟨r, 0, none⟩), .int .i64 (p : Nat), .int .i64 (m : Nat)] (A) (fun v_ B => ∃ e s2, lastS p m s = (e, s2) ∧ v_ = .int .i64 e ∧ B = C (RDev r s2)) := by
  refine fn_enterW (args := [.pointer (some ⟨r, 0, none⟩), .int .i64 (p : Nat), .int .i64 (m : Nat)]) Tryz.func79 rfl Tryz.ntmps79 (by simp) ?_; refine tc_have (fun _ _ h => wfR_ct hc h) fun hw => ?_
  obtain ⟨rfl, hC⟩ := hc
  have htop := hw.top
  refine sr ?_; refine tla ?_; refine nq ?_; refine tc_seq ?_; refine sr ?_; refine tlm ?_; refine tv (o_quoN (b := 64) rfl rfl (by omega)) ?_; refine tla ?_; refine nq ?_; refine tc_block ?_; refine tc_loop (fun kk ρ BB => ∃ (q : Nat) (s1 : DevS), (p / 64 ≤ q) ∧ (q ≤ (p + m - 1) / 64 + 1) ∧ (flF ((p + m - 1) / 64 + 1 - q) q s1 = lastS p m s) ∧ (s1.ls.length = s.ls.length) ∧ kk = (p + m - 1) / 64 + 1 - q ∧ ρ 7 = .int .i64 (q : Nat) ∧ ρ 0 = .pointer (some ⟨r, 0, none⟩) ∧ ρ 1 = .int .i64 (p : Nat) ∧ ρ 2 = .int .i64 (m : Nat) ∧ BB = R * RDev r s1) (m := (p + m - 1) / 64 + 1 - (p / 64)) ?_ ?_
  · exact ⟨p / 64, s, by omega, by omega, by unfold lastS; congr 1; omega, rfl, rfl, rfl, rfl, rfl, rfl, rfl⟩
  · intro k ρ B hI
    obtain ⟨q, s1, hp0, hp1, hp2, hp3, hkk1, hE7, hE0, hE1, hE2, rfl⟩ := hI
    refine tc_env (d := 7) hE7 ?_; refine tc_env (d := 0) hE0 ?_; refine tc_env (d := 1) hE1 ?_; refine tc_env (d := 2) hE2 ?_
    clear hE7 hE0 hE1 hE2
    refine tc_seq ?_; refine sr ?_; refine tlm ?_; refine tv (by first | exact o_mulI rfl rfl (by omega) | exact o_mul rfl rfl) ?_; refine tl_env (d := 12) (v := .int .i64 ((q * 64 : Nat) : Int)) (rfl) ?_; refine tlm ?_; refine tlm ?_; refine tv (by first | exact o_addI rfl rfl (by omega) | exact o_add rfl rfl) ?_; refine tv (o_lss rfl rfl) ?_; refine nq ?_; refine tc_cond rfl (fun h => ?_) (fun h => ?_)
    · have hq : q * 64 < p + m := by simp at h; omega
      refine tc_skip ?_; refine q_then_n ?_; refine tc_seq ?_; refine tc_block ?_; refine sr ?_; refine tlm ?_; refine tlm ?_; refine tv (by first | exact o_mulI rfl rfl (by omega) | exact o_mul rfl rfl) ?_; refine tl_env (d := 21) (v := .int .i64 ((q * 64 : Nat) : Int)) (rfl) ?_; refine tl_c rfl (o_call bd38 rfl (rFlush_c (s := s1) (p := ((q * 64 : Nat) : Int)))) ?_; rintro _ _ ⟨e22, s22, hs22, rfl, rfl⟩; refine tla ?_; refine nq ?_; refine sr ?_; refine tlm ?_; refine tv (o_nei rfl rfl) ?_; refine nq ?_; refine tc_cond rfl (fun h => ?_) (fun h => ?_)
      · have h : e22 ≠ 0 := by simpa using h
        refine sr ?_; refine tlm ?_; refine tla ?_; refine nq ?_; refine tc_ret ?_; refine q_block_r (q_then_r (q_then_r (q_block_r (q_then_r ?_)))); exact ⟨.int .i64 e22, C (RDev r s22), res1 rfl rfl, fun _ _ h => by rw [hC]; exact h, e22, s22, by rw [← hp2]; exact flF_s2 (k' := (p + m - 1) / 64 - q) hs22 h (by omega), rfl, rfl⟩
      · obtain rfl : e22 = 0 := by simpa using h
        refine tc_skip ?_; refine q_block_n (q_then_n ?_); refine tc_reg ?_; refine tlm ?_; refine tv (by first | exact o_addI rfl rfl (by omega) | exact o_add rfl rfl) ?_; refine tla ?_; refine nq ?_; exact ⟨_, by omega, q + 1, s22, by omega, by omega, by rw [← hp2]; exact (flF_s1 hs22 (by omega)).symm, by have := fl1_len ((q * 64 : Nat) : Int) s1; rw [hs22] at this; exact this.trans hp3, rfl, rfl, rfl, rfl, rfl, rfl⟩
    · have hq : q = (p + m - 1) / 64 + 1 := by simp at h; omega
      subst hq
      rw [Nat.sub_self, flF_zero] at hp2
      refine tc_exit ?_; refine q_then_e (q_then_e (q_block_x (q_then_n ?_))); refine sr ?_; refine tlm ?_; refine tl_c rfl (o_call bd40 rfl (rFence_c (s := s1))) ?_; rintro _ _ ⟨e27, s27, hs27, rfl, rfl⟩; refine tla ?_; refine nq ?_; refine tc_ret ?_; exact ⟨.int .i64 e27, C (RDev r s27), res1 rfl rfl, fun _ _ h => by rw [hC]; exact h, e27, s27, by rw [← hp2]; exact hs27, rfl, rfl⟩
theorem rBytes_c {A R : SP} {C : SP → SP} {r : Nat} {s : DevS} (hc : Ct A (RDev r s) R C := by repeat (first | with_reducible exact ct_here | apply ct_left)) {a : Option Addr} {c m : Nat} {p : Int} {xs : List Nat} (hr : Rs R a (bys xs) := by repeat (first | assumption | with_reducible exact rs_sl | with_reducible exact rs_pt0 | exact rs_none | apply Rs.left)) (hm : xs.length = m := by first | assumption | rfl) (hmc : m ≤ c := by first | assumption | omega) (hb : ∀ x ∈ xs, x < 256 := by assumption) (hml : m ≤ 140737488351232 := by omega) (hp : -9223372036854775808 ≤ p ∧ p ≤ 9223372036854775807 := by omega) (hroom : rdy s.ls.length s.off p m = 0 → Room m s := by assumption) :
    Fn Tryz.prog 81 #[.pointer (some ⟨r, 0, none⟩), .int .i64 p, .slice a m c] (A) (fun v_ B => ∃ e s2, bytesP p xs s = (e, s2) ∧ v_ = .int .i64 e ∧ B = C (RDev r s2)) := by
  refine fn_enterW (args := [.pointer (some ⟨r, 0, none⟩), .int .i64 p, .slice a m c]) Tryz.func81 rfl Tryz.ntmps81 (by simp) ?_
  obtain ⟨rfl, hC⟩ := hc
  refine tc_rdev fun hw lv rls av kvs hmap hkv => ?_
  have hpos := hw.pos
  have htop := hw.top
  subst hm
  refine sr ?_; refine tla ?_; refine nq ?_; refine tc_seq ?_; refine sr ?_; refine tlm ?_; refine tv (o_eqp Tryz.underlying28 rfl rfl) ?_; refine nq ?_; refine tc_cond rfl (fun h => ?_) (fun h => ?_)
  · (exfalso; first | (revert h; simp; done) | (simp at h; done) | (revert h; simp; omega) | (simp at h; omega) | omega)
  · try simp only [lv1, lv2, lv3, lv4, lv5, lv6, Bool.not_true, Bool.not_false] at h
    refine tc_skip ?_; refine q_then_n ?_; refine tc_seq ?_; refine sr ?_; refine tlm ?_; refine tv (o_nilCheck rfl) ?_; refine tv (o_fieldAddr (o := 5) Tryz.underlying114 rfl rfl sz4 rfl) ?_; refine tv (o_load p4 rfl (by repeat (first | exact rdevC_r | apply has_left)) rfl) ?_; refine nq ?_; refine tc_cond rfl (fun h => ?_) (fun h => ?_)
    · try simp only [lv1, lv2, lv3, lv4, lv5, lv6, Bool.not_true, Bool.not_false] at h
      refine sr ?_; refine tla ?_; refine nq ?_; refine tc_ret ?_; refine q_then_r ?_; exact ⟨.int .i64 5, C (RDev r s), res1 rfl rfl, fun _ _ h => by rw [hC]; exact rdev_back hw hmap hkv _ _ h, 5, s, by unfold bytesP; rw [if_pos h], rfl, rfl⟩
    · have ho : s.off = false := by simpa using h
      refine tc_skip ?_; refine q_then_n ?_; refine tc_seq ?_; refine sr ?_; refine tlm ?_; refine tv (o_len Tryz.underlying32 rfl) ?_; refine tv (o_eqi rfl rfl) ?_; refine nq ?_; refine tc_cond rfl (fun h => ?_) (fun h => ?_)
      · have hne : xs = [] := List.eq_nil_of_length_eq_zero (by first | omega | (simp at h; omega) | (simpa using h))
        refine sr ?_; refine tla ?_; refine nq ?_; refine tc_ret ?_; refine q_then_r ?_; exact ⟨.int .i64 0, C (RDev r s), res1 rfl rfl, fun _ _ h => by rw [hC]; exact rdev_back hw hmap hkv _ _ h, 0, s, by unfold bytesP; rw [if_neg (by rw [ho]; decide), if_pos hne], rfl, rfl⟩
      · have hne : xs ≠ [] := fun e => by subst e; simp at h
        have hl1 : 1 ≤ xs.length := List.length_pos_iff.2 hne
        refine tc_pre (rdev_back hw hmap hkv) ?_; refine tc_skip ?_; refine q_then_n ?_; refine tc_seq ?_; refine sr ?_; refine tlm ?_; refine tlm ?_; refine tlm ?_; refine tv (o_len Tryz.underlying32 rfl) ?_; refine tl_c rfl (o_call bd78 rfl (rin9_c (s := s))) ?_; rintro _ _ ⟨rfl, rfl⟩; refine tv (o_not rfl) ?_; refine nq ?_; refine tc_cond rfl (fun h => ?_) (fun h => ?_)
        · have hz : rdy s.ls.length false p xs.length ≠ 0 := by simpa using h
          have hst : sto p xs s = (6, s) := by unfold sto; rw [ho, if_pos hz]; unfold rdy at hz ⊢; simp at hz ⊢; exact hz
          refine sr ?_; refine tla ?_; refine nq ?_; refine tc_ret ?_; refine q_then_r ?_; exact ⟨.int .i64 6, C (RDev r s), res1 rfl rfl, fun _ _ h => by rw [hC]; exact h, 6, s, by unfold bytesP; rw [if_neg (by rw [ho]; decide), if_neg hne, hst, if_pos (by show (6 : Int) ≠ 0; decide)], rfl, rfl⟩
        · try simp only [lv1, lv2, lv3, lv4, lv5, lv6, Bool.not_true, Bool.not_false] at h
          refine tc_skip ?_; refine q_then_n ?_; refine sr ?_; refine tlm ?_; refine tlm ?_; refine tlm ?_; refine tl_c rfl (o_call bd36 rfl (rStore_c (s := s) (p := p) (xs := xs) (hr := hr) (hmc := hmc))) ?_; rintro _ _ ⟨e26, s26, hs26, rfl, rfl⟩; refine tla ?_; refine nq ?_; refine tc_seq ?_; refine sr ?_; refine tlm ?_; refine tv (o_nei rfl rfl) ?_; refine nq ?_; refine tc_cond rfl (fun h => ?_) (fun h => ?_)
          · try simp only [lv1, lv2, lv3, lv4, lv5, lv6, Bool.not_true, Bool.not_false] at h
            refine sr ?_; refine tlm ?_; refine tla ?_; refine nq ?_; refine tc_ret ?_; refine q_then_r ?_; exact ⟨.int .i64 e26, C (RDev r s26), res1 rfl rfl, fun _ _ h => by rw [hC]; exact h, e26, s26, by unfold bytesP; rw [if_neg (by rw [ho]; decide), if_neg hne, hs26, if_pos (by simpa using h)], rfl, rfl⟩
          · obtain rfl : e26 = 0 := by simpa using h
            have hrd := rdy0 (sto_rdy (by rw [hs26]))
            have hsl := sto_len p xs s
            rw [hs26] at hsl
            simp only at hsl
            obtain ⟨q, rfl⟩ := Int.eq_ofNat_of_zero_le hrd.2.1
            refine tc_skip ?_; refine q_then_n ?_; refine sr ?_; refine tlm ?_; refine tlm ?_; refine tlm ?_; refine tv (o_len Tryz.underlying32 rfl) ?_; refine tl_c rfl (o_call bd79 rfl (rlast_c (s := s26) (p := q) (m := xs.length))) ?_; rintro _ _ ⟨e34, s34, hs34, rfl, rfl⟩; refine tla ?_; refine nq ?_; refine tc_ret ?_; exact ⟨.int .i64 e34, C (RDev r s34), res1 rfl rfl, fun _ _ h => by rw [hC]; exact h, e34, s34, by unfold bytesP; rw [if_neg (by rw [ho]; decide), if_neg hne, hs26, if_neg (by simp)]; exact hs34, rfl, rfl⟩
theorem nm_snocr (x : Nat) (l : List Nat) : nm (x :: l) = x + 256 * nm l := rfl
theorem nm_bound {l : List Nat} (h : ∀ x ∈ l, x < 256) (hl : l.length ≤ 8) : nm l < 18446744073709551616 := Nat.lt_of_lt_of_le (nm_lt l h) (by calc 256 ^ l.length ≤ 256 ^ 8 := Nat.pow_le_pow_right (by decide) hl
  _ = 18446744073709551616 := by decide)
theorem NumberR_c {A : SP} {a : Option Addr} {c m : Nat} {xs : List Nat} (hr : Rs A a (bys xs) := by repeat (first | assumption | with_reducible exact rs_sl | with_reducible exact rs_pt0 | exact rs_none | apply Rs.left)) (hm : xs.length = m := by first | assumption | rfl) (hb : ∀ x ∈ xs, x < 256 := by assumption) (h8 : m ≤ 8 := by omega) :
    Fn Tryz.prog 90 #[.slice a m c] (A) (fun v B => v = .int .u64 ((nm xs : Nat) : Int) ∧ A = B) := by
  refine fn_enterW (args := [.slice a m c]) Tryz.func90 rfl Tryz.ntmps90 (by simp) ?_; refine sr ?_; refine tla ?_; refine nq ?_; refine sr ?_; refine tla ?_; refine nq ?_; refine tc_seq ?_; refine sr ?_; refine tlm ?_; refine tv (o_len Tryz.underlying32 rfl) ?_; refine tv (by first | exact o_subI rfl rfl (by omega) | exact o_sub rfl rfl) ?_; refine tla ?_; refine nq ?_; refine tc_block ?_; refine tc_loop (fun kk ρ BB => ∃ (i : Nat), (i ≤ m) ∧ kk = i ∧ ρ 3 = .int .u64 ((nm (xs.drop i) : Nat) : Int) ∧ ρ 4 = .int .i64 ((i : Int) - 1) ∧ ρ 0 = .slice a m c ∧ BB = A) (m := (m)) ?_ ?_
  · exact ⟨m, by omega, rfl, by rw [List.drop_of_length_le (by omega)]; rfl, rfl, rfl, rfl⟩
  · intro k ρ B hI
    obtain ⟨i, hp0, hkk1, hE3, hE4, hE0, hBA⟩ := hI
    obtain rfl := hBA.symm
    refine tc_env (d := 3) hE3 ?_; refine tc_env (d := 4) hE4 ?_; refine tc_env (d := 0) hE0 ?_
    clear hE3 hE4 hE0
    refine tc_seq ?_; refine sr ?_; refine tlm ?_; refine tv (o_geq rfl rfl) ?_; refine nq ?_; refine tc_cond rfl (fun h => ?_) (fun h => ?_)
    · have hi : 1 ≤ i := by simp at h; omega
      have hi2 : i - 1 < xs.length := by omega
      have e1 : xs.drop (i - 1) = xs[i - 1] :: xs.drop i := by rw [List.drop_eq_getElem_cons hi2, show i - 1 + 1 = i by omega]
      have hbb := nm_bound (fun x hx => hb x (List.mem_of_mem_drop hx)) (show (xs.drop (i - 1)).length ≤ 8 by rw [List.length_drop]; omega)
      rw [e1, nm_snocr] at hbb
      have hx := hb _ (List.getElem_mem hi2)
      refine tc_skip ?_; refine q_then_n ?_; refine tc_seq ?_; refine tc_block ?_; refine tc_reg ?_; refine tlm ?_; refine tv (o_mulN (b := 256) rfl rfl rfl rfl (by show _ < 18446744073709551616; omega)) ?_; refine tlm ?_; refine tlm ?_; refine tl_env (d := 15) (v := .int .i64 ((i - 1 : Nat) : Int)) (by show Value.int .i64 _ = Value.int .i64 _; congr 1; omega) ?_; refine tv (o_ixP1 Tryz.underlying32 sz5 rfl rfl (by first | omega | (simp only [bys_length, ints_length, wds_length, bos_length, List.length_append, List.length_take, List.length_drop, List.length_singleton]; omega)) (by repeat (first | exact nn_some | with_reducible exact nn_sl (by decide) | exact nn_rs (by assumption) (fun _ => by first | omega | (simp only [bys_length, ints_length, wds_length, bos_length, List.length_append, List.length_take, List.length_drop, List.length_singleton]; omega)) | apply Nn.left))) ?_; refine tv (o_ldP p5 rfl (by repeat (first | assumption | with_reducible exact rs_sl | with_reducible exact rs_pt0 | exact rs_none | apply Rs.left)) (by first | assumption | exact bys_at (by omega) | exact ints_at (by omega) | exact wds_at (by omega) | exact bos_at (by omega) | rfl)) ?_; refine tv (by first | exact o_conv64 Tryz.underlying5 Tryz.underlying33 rfl | exact o_conv Tryz.underlying5 Tryz.underlying33 rfl) ?_; refine tl_env (d := 18) (v := .int .u64 ((xs[i - 1] : Nat) : Int)) (congrArg (fun z : Nat => Value.int .u64 (z : Int)) (Nat.mod_eq_of_lt (by omega))) ?_
      refine tv (o_addN rfl rfl rfl (by show _ < 18446744073709551616; omega)) ?_; refine tla ?_; refine tl_nil ?_; refine q_block_n (q_then_n ?_); refine tc_reg ?_; refine tlm ?_; refine tv (by first | exact o_subI rfl rfl (by omega) | exact o_sub rfl rfl) ?_; refine tla ?_; refine nq ?_; exact ⟨_, by omega, i - 1, by omega, rfl, by show Value.int .u64 _ = Value.int .u64 _; rw [e1, nm_snocr]; congr 1; omega, by show Value.int .i64 _ = _; congr 1; omega, rfl, rfl⟩
    · try simp only [lv1, lv2, lv3, lv4, lv5, lv6, Bool.not_true, Bool.not_false] at h
      refine tc_exit ?_; refine q_then_e (q_then_e (q_block_x (q_then_n ?_))); refine sr ?_; refine tlm ?_; refine tla ?_; refine nq ?_; refine tc_ret ?_
      obtain rfl : i = 0 := by simp at h; omega
      exact ⟨.int .u64 ((nm (xs.drop 0) : Nat) : Int), A, res1 rfl rfl, Dr.sat (by repeat (first | with_reducible exact dr_refl | apply dr_keep | apply dr_drop)), by rw [List.drop_zero], rfl⟩
theorem rNumber_c {A R : SP} {C : SP → SP} {r : Nat} {s : DevS} (hc : Ct A (RDev r s) R C := by repeat (first | with_reducible exact ct_here | apply ct_left)) {p : Int} {n : Nat} (hp : -9223372036854775808 ≤ p ∧ p ≤ 9223372036854775807 := by omega) (hn : n ≤ 8 := by omega) :
    Fn Tryz.prog 31 #[.pointer (some ⟨r, 0, none⟩), .int .i64 p, .int .i64 (n : Nat)] (A) (fun v B => v = .tuple #[.int .u64 (((loadP p n s).1 : Nat) : Int), .int .i64 (loadP p n s).2] ∧ B = C (RDev r s)) := by
  refine fn_enterW (args := [.pointer (some ⟨r, 0, none⟩), .int .i64 p, .int .i64 (n : Nat)]) Tryz.func31 rfl Tryz.ntmps31 (by simp) ?_
  obtain ⟨rfl, hC⟩ := hc
  refine tc_rdev fun hw lv rls av kvs hmap hkv => ?_
  have hpos := hw.pos
  have htop := hw.top
  
  refine sr ?_; refine tla ?_; refine tla ?_; refine nq ?_; refine tc_seq ?_; refine sr ?_; refine tlm ?_; refine tv (o_eqp Tryz.underlying28 rfl rfl) ?_; refine nq ?_; refine tc_cond rfl (fun h => ?_) (fun h => ?_)
  · (exfalso; first | (revert h; simp; done) | (simp at h; done) | (revert h; simp; omega) | (simp at h; omega) | omega)
  · try simp only [lv1, lv2, lv3, lv4, lv5, lv6, Bool.not_true, Bool.not_false] at h
    refine tc_skip ?_; refine q_then_n ?_; refine tc_seq ?_; refine sr ?_; refine tlm ?_; refine tv (o_nilCheck rfl) ?_; refine tv (o_fieldAddr (o := 5) Tryz.underlying114 rfl rfl sz4 rfl) ?_; refine tv (o_load p4 rfl (by repeat (first | exact rdevC_r | apply has_left)) rfl) ?_; refine nq ?_; refine tc_cond rfl (fun h => ?_) (fun h => ?_)
    · try simp only [lv1, lv2, lv3, lv4, lv5, lv6, Bool.not_true, Bool.not_false] at h
      refine sr ?_; refine tla ?_; refine tla ?_; refine nq ?_; refine tc_ret ?_; refine q_then_r ?_
      have e : loadP p n s = (0, 5) := by unfold loadP rdy; simp only [h, if_true]; rfl
      rw [e]
      exact ⟨.tuple #[.int .u64 0, .int .i64 5], C (RDev r s), res2 rfl rfl rfl, fun _ _ h => by rw [hC]; exact rdev_back hw hmap hkv _ _ h, rfl, rfl⟩
    · have ho : s.off = false := by simpa using h
      refine tc_pre (rdev_back hw hmap hkv) ?_; refine tc_skip ?_; refine q_then_n ?_; refine tc_seq ?_; refine sr ?_; refine tlm ?_; refine tlm ?_; refine tlm ?_; refine tl_c rfl (o_call bd78 rfl (rin9_c (s := s))) ?_; rintro _ _ ⟨rfl, rfl⟩; refine tv (o_not rfl) ?_; refine nq ?_; refine tc_cond rfl (fun h => ?_) (fun h => ?_)
      · try simp only [lv1, lv2, lv3, lv4, lv5, lv6, Bool.not_true, Bool.not_false] at h
        refine sr ?_; refine tla ?_; refine tla ?_; refine nq ?_; refine tc_ret ?_; refine q_then_r ?_
        have hz : rdy s.ls.length false p n ≠ 0 := by simpa using h
        have e : loadP p n s = (0, 6) := by unfold loadP; rw [ho, if_pos hz]; unfold rdy at hz ⊢; simp at hz ⊢; exact hz
        rw [e]
        exact ⟨.tuple #[.int .u64 0, .int .i64 6], C (RDev r s), res2 rfl rfl rfl, fun _ _ h => by rw [hC]; exact h, rfl, rfl⟩
      · have hz : rdy s.ls.length false p n = 0 := by simpa using h
        have hr0 := rdy0 hz
        obtain ⟨q, rfl⟩ := Int.eq_ofNat_of_zero_le hr0.2.1
        have hil2 := imgS_len hw
        have hxl : (((imgS s).drop q).take n).length = n := by rw [List.length_take, List.length_drop]; omega
        have hxb : ∀ x ∈ ((imgS s).drop q).take n, x < 256 := img_sub
        refine tc_skip ?_; refine q_then_n ?_; refine sr ?_; refine tlm ?_; refine tlm ?_; refine tlm ?_; refine tl_c rfl (o_call bd89 rfl (rLoad_c (s := s) (p := q) (m := n))) ?_; rintro _ _ ⟨a25, c25, rfl, hc25, rfl⟩; refine tlm ?_; refine tv (o_extract rfl rfl) ?_; refine tv (o_extract rfl rfl) ?_; refine tla ?_; refine tla ?_; refine nq ?_; refine sr ?_; refine tlm ?_; refine tl_c rfl (o_call bd90 rfl (NumberR_c (xs := ((imgS s).drop q).take n))) ?_; rintro _ _ ⟨rfl, rfl⟩; refine tlm ?_; refine tla ?_; refine tla ?_; refine nq ?_; refine tc_ret ?_
        have e : loadP (q : Int) n s = (nm (((imgS s).drop q).take n), 0) := by unfold loadP; rw [ho, if_neg (by omega), Int.toNat_natCast]
        rw [e]
        exact ⟨.tuple #[.int .u64 ((nm (((imgS s).drop q).take n) : Nat) : Int), .int .i64 0], C (RDev r s), res2 rfl rfl rfl, fun _ _ h => by rw [hC]; exact Dr.sat (by repeat (first | with_reducible exact dr_refl | apply dr_keep | apply dr_drop)) _ _ h, rfl, rfl⟩
theorem rWord_c {A R : SP} {C : SP → SP} {r : Nat} {s : DevS} (hc : Ct A (RDev r s) R C := by repeat (first | with_reducible exact ct_here | apply ct_left)) {p : Int} (hp : -9223372036854775808 ≤ p ∧ p ≤ 9223372036854775807 := by omega) :
    Fn Tryz.prog 29 #[.pointer (some ⟨r, 0, none⟩), .int .i64 p] (A) (fun v B => v = .tuple #[.int .u64 (((wordP p s).1 : Nat) : Int), .int .i64 (wordP p s).2] ∧ B = C (RDev r s)) := by
  refine fn_enterW (args := [.pointer (some ⟨r, 0, none⟩), .int .i64 p]) Tryz.func29 rfl Tryz.ntmps29 (by simp) ?_
  obtain ⟨rfl, hC⟩ := hc
  refine tc_rdev fun hw lv rls av kvs hmap hkv => ?_
  have hpos := hw.pos
  have htop := hw.top
  
  refine sr ?_; refine tla ?_; refine tla ?_; refine nq ?_; refine tc_seq ?_; refine sr ?_; refine tlm ?_; refine tv (o_nep Tryz.underlying28 rfl rfl) ?_; refine tlm ?_; refine tl_bool (d := 8) rfl (fun h => ?_) (fun h => ?_)
  · try simp only [lv1, lv2, lv3, lv4, lv5, lv6, Bool.not_true, Bool.not_false] at h
    refine tlm ?_; refine tv (o_nilCheck rfl) ?_; refine tv (o_fieldAddr (o := 5) Tryz.underlying114 rfl rfl sz4 rfl) ?_; refine tv (o_load p4 rfl (by repeat (first | exact rdevC_r | apply has_left)) rfl) ?_; refine tv (o_not rfl) ?_; refine tv (o_pick_t rfl (by conv => lhs; whnf)) ?_; refine tlm ?_; refine tl_bool (d := 15) rfl (fun h => ?_) (fun h => ?_)
    · have ho : s.off = false := by simpa using h
      refine tlm ?_; refine tv (o_rem (b := 8) rfl rfl (by decide)) ?_; refine tv (o_nei rfl rfl) ?_; refine tv (o_pick_t rfl (by conv => lhs; whnf)) ?_; refine nq ?_; refine tc_cond rfl (fun h => ?_) (fun h => ?_)
      · have hne : p % 8 ≠ 0 := fun e => by simp at h; exact h (tmod8.2 e)
        have e : wordP p s = (0, 6) := by unfold wordP; rw [if_neg (by rw [ho]; decide), if_pos hne]
        refine sr ?_; refine tla ?_; refine tla ?_; refine nq ?_; refine tc_ret ?_; refine q_then_r ?_
        first
        | (rw [e]; exact ⟨.tuple #[.int .u64 (((loadP p 8 s).1 : Nat) : Int), .int .i64 (loadP p 8 s).2], C (RDev r s), res2 rfl rfl rfl, fun _ _ h => by first | exact h | (rw [hC]; exact h), rfl, rfl⟩)
        | (rw [e]; exact ⟨.tuple #[.int .u64 0, .int .i64 6], C (RDev r s), res2 rfl rfl rfl, fun _ _ h => by rw [hC]; exact rdev_back hw hmap hkv _ _ h, rfl, rfl⟩)
      · have hmod : p % 8 = 0 := tmod8.1 (by simpa using h)
        have e : wordP p s = loadP p 8 s := by unfold wordP; rw [if_neg (by rw [ho]; decide), if_neg (by omega)]
        refine tc_skip ?_; refine q_then_n ?_; refine tc_seq ?_; refine tc_pre (rdev_back hw hmap hkv) ?_; refine tc_reg ?_; refine tlm ?_; refine tlm ?_; refine tl_c rfl (o_call bd31 rfl (rNumber_c (s := s) (p := p) (n := 8))) ?_; rintro _ _ ⟨rfl, rfl⟩; refine tv (o_extract rfl rfl) ?_; refine tv (o_extract rfl rfl) ?_; refine tla ?_; refine tla ?_; refine nq ?_; refine tc_ret ?_
        first
        | (rw [e]; exact ⟨.tuple #[.int .u64 (((loadP p 8 s).1 : Nat) : Int), .int .i64 (loadP p 8 s).2], C (RDev r s), res2 rfl rfl rfl, fun _ _ h => by first | exact h | (rw [hC]; exact h), rfl, rfl⟩)
        | (rw [e]; exact ⟨.tuple #[.int .u64 0, .int .i64 6], C (RDev r s), res2 rfl rfl rfl, fun _ _ h => by rw [hC]; exact rdev_back hw hmap hkv _ _ h, rfl, rfl⟩)
    · have ho : s.off = true := by simpa using h
      have e : wordP p s = loadP p 8 s := by unfold wordP loadP rdy; simp only [ho, if_true]; rfl
      refine tk ?_; refine tk ?_; refine tk ?_; refine tv (o_pick_f rfl (by conv => lhs; whnf)) ?_; refine nq ?_; refine tc_cond_f rfl ?_; refine tc_skip ?_; refine q_then_n ?_; refine tc_seq ?_; refine tc_pre (rdev_back hw hmap hkv) ?_; refine tc_reg ?_; refine tlm ?_; refine tlm ?_; refine tl_c rfl (o_call bd31 rfl (rNumber_c (s := s) (p := p) (n := 8))) ?_; rintro _ _ ⟨rfl, rfl⟩; refine tv (o_extract rfl rfl) ?_; refine tv (o_extract rfl rfl) ?_; refine tla ?_; refine tla ?_; refine nq ?_; refine tc_ret ?_
      first
      | (rw [e]; exact ⟨.tuple #[.int .u64 (((loadP p 8 s).1 : Nat) : Int), .int .i64 (loadP p 8 s).2], C (RDev r s), res2 rfl rfl rfl, fun _ _ h => by first | exact h | (rw [hC]; exact h), rfl, rfl⟩)
      | (rw [e]; exact ⟨.tuple #[.int .u64 0, .int .i64 6], C (RDev r s), res2 rfl rfl rfl, fun _ _ h => by rw [hC]; exact rdev_back hw hmap hkv _ _ h, rfl, rfl⟩)
  · (exfalso; first | (revert h; simp; done) | (simp at h; done) | (revert h; simp; omega) | (simp at h; omega) | omega)
end Go.Vl

set_option linter.unusedVariables false
set_option linter.unusedSimpArgs false
namespace Go.Vl
open Go Go.Proofs
/-! ### What all contents of the lines of a range have in common -/
/-- All contents of all lines have the bytes c from at_ on. -/
def Ag (at_ : Nat) (c : List Nat) (s : DevS) : Prop := ∀ x, x < c.length → ∀ l, s.ls[(at_ + x) / 64]? = some l → ∀ σ ∈ l.st, (lb σ)[(at_ + x) % 64]? = c[x]?
def AgI (at_ : Nat) (c : List Nat) (I : List Nat) : Prop := ∀ x, x < c.length → I[at_ + x]? = c[x]?
/-! ### Lines are flushed -/
/-- Lines from q on, k of them, flushed. -/
def flsh (k q : Nat) (ls : List LineS) : List LineS := ls.mapIdx fun i l => if q ≤ i ∧ i < q + k then flushL l else l
end Go.Vl

set_option linter.unusedVariables false
set_option linter.unusedSimpArgs false
namespace Go.Vl
open Go Go.Proofs
theorem old_heap' {W w : World} {g : Gh} (h : sat g w (old W)) {k : Nat} (hk : k < W.heap.size) : w.heap[k]? = W.heap[k]? := by
  obtain ⟨x, rfl, hx⟩ := h.hp
  have := Array.getElem?_eq_getElem hk
  rw [this]; exact hx _ _ true (by simp [this])
theorem cell_old' {W : World} {b off : Nat} {v : Value} (h : W.cell? ⟨b, off, none⟩ = some v) : Cell (old W) b off v := fun g w hs => by
  have hb : b < W.heap.size := by
    rcases Nat.lt_or_ge b W.heap.size with h1 | h1
    · exact h1
    · exfalso
      have : W.heap[b]? = none := Array.getElem?_eq_none h1
      simp [World.cell?, this] at h
  have := old_heap' hs hb
  rw [← h]; simp only [World.cell?, this]
theorem rs_old {W : World} {a : Addr} {xs : List Value} (h : ∀ i v, xs[i]? = some v → W.cell? (a.add i) = some v) : Rs (old W) (some a) xs := by
  cases xs with
  | nil => exact rs_nil
  | cons x l =>
    obtain ⟨b, off, spot⟩ := a
    have h0 := h 0 x rfl
    have hspot : spot = none := by simpa [Addr.add] using World.cell?_spot h0
    subst hspot
    refine fun g w hs i v hv => ⟨b, off, rfl, ?_⟩
    have := h i v hv
    rw [WideShapes.add_plain] at this
    exact cell_old' this g w hs
/-- Whatever lies there as a value of type t, by the argument's own reading, r holds of. -/
def Rdb {α : Type} (P : Program) (W : World) (t : TypeId) (r : List Value → α → Prop) : Prop :=
  ∀ (H : Type) (enc : TypeId × Value → H) (spare : Nat → Bool) (held : Bool) (fuel : Nat) (cs : List Value) (d : DataW H) (pl : List MemPlace),
    DataW.trod enc P W 0 spare held fuel t cs = some (d, pl) → (∀ n ∈ d.weights P t, n ≤ reachBytes) → ∃ x, r cs x
theorem Rdb.mono {α β : Type} {P : Program} {W : World} {t : TypeId} {r : List Value → α → Prop} {q : List Value → β → Prop} (h : Rdb P W t r) (k : ∀ cs x, r cs x → ∃ y, q cs y) : Rdb P W t q :=
  fun H enc sp hd fu cs d pl h1 h2 => by obtain ⟨x, hx⟩ := h H enc sp hd fu cs d pl h1 h2; exact k cs x hx
def PInt (k : IntKind) (cs : List Value) (n : Int) : Prop := cs = [.int k n] ∧ (Lit.int k n).wf = true
def PBool (cs : List Value) (b : Bool) : Prop := cs = [.bool b]
/-- A slice: its elements' cells, and what each is. -/
def PSl {α : Type} (A : SP) (k b : Nat) (r : List Value → α → Prop) (cs : List Value) (xs : List α) : Prop :=
  ∃ (a : Option Addr) (cap : Nat) (Cs : List (List Value)), cs = [.slice a xs.length cap] ∧ xs.length ≤ cap ∧ xs.length * b ≤ reachBytes ∧ Cs.length = xs.length ∧ (∀ i (h : i < xs.length) (h' : i < Cs.length), Cs[i].length = k ∧ r Cs[i] xs[i]) ∧ Rs A a Cs.flatten
theorem flat_at {k : Nat} : ∀ {Cs : List (List Value)} (_ : ∀ c ∈ Cs, c.length = k) {i j : Nat} (_ : j < k) (hi : i < Cs.length), Cs.flatten[i * k + j]? = Cs[i][j]?
  | c :: Cs, h, 0, j, hj, _ => by
    rw [Nat.zero_mul, Nat.zero_add, List.flatten_cons, List.getElem?_append_left (by rw [h c (by simp)]; exact hj)]; rfl
  | c :: Cs, h, i + 1, j, hj, hi => by
    have hc := h c (by simp)
    rw [List.flatten_cons, List.getElem?_append_right (by rw [hc, Nat.add_mul]; omega), hc, show (i + 1) * k + j - k = i * k + j by rw [Nat.add_mul]; omega]
    exact flat_at (fun x hx => h x (List.mem_cons_of_mem _ hx)) hj (by simpa using hi)
theorem flat_length {k : Nat} : ∀ {Cs : List (List Value)} (_ : ∀ c ∈ Cs, c.length = k), Cs.flatten.length = Cs.length * k
  | [], _ => by simp
  | c :: Cs, h => by
    rw [List.flatten_cons, List.length_append, h c (by simp), flat_length (fun x hx => h x (List.mem_cons_of_mem _ hx)), List.length_cons, Nat.add_mul]; omega
theorem flat1 {α : Type} {r : List Value → α → Prop} {f : α → Value} : ∀ {Cs : List (List Value)} {xs : List α} (_ : Cs.length = xs.length) (_ : ∀ i (h : i < xs.length) (h' : i < Cs.length), Cs[i] = [f xs[i]]), Cs.flatten = xs.map f
  | [], [], _, _ => rfl
  | c :: Cs, x :: xs, hl, h => by
    have h0 := h 0 (by simp) (by simp)
    simp only [List.getElem_cons_zero] at h0
    rw [List.flatten_cons, h0, flat1 (r := r) (f := f) (Cs := Cs) (xs := xs) (by simpa using hl) (fun i hi hi' => h (i + 1) (by simpa using hi) (by simpa using hi'))]; rfl
/-- Bytes. -/
def PBys (A : SP) (cs : List Value) (xs : List Nat) : Prop := ∃ a cap, cs = [.slice a xs.length cap] ∧ xs.length ≤ cap ∧ xs.length ≤ 140737488351232 ∧ Rs A a (bys xs) ∧ ∀ x ∈ xs, x < 256
def PInts (A : SP) (cs : List Value) (xs : List Int) : Prop := ∃ a cap, cs = [.slice a xs.length cap] ∧ xs.length ≤ cap ∧ xs.length ≤ 17592186043904 ∧ Rs A a (ints xs) ∧ ∀ x ∈ xs, -9223372036854775808 ≤ x ∧ x ≤ 9223372036854775807
theorem i64_wf {x : Int} (h : (Lit.int .i64 x).wf = true) : -9223372036854775808 ≤ x ∧ x ≤ 9223372036854775807 := Go.bounds_i64 h
end Go.Vl

set_option linter.unusedVariables false
set_option linter.unusedSimpArgs false
namespace Go.Vl
open Go Go.Proofs
abbrev ub {H : Type} (d : DataW H) : Nat := Go.Proofs.YtimckjnnjakcoaaGreat.Rows.uptoBulk d
abbrev ubs {H : Type} (l : List (DataW H)) : Nat := Go.Proofs.YtimckjnnjakcoaaGreat.Rows.uptoBulkAll l
theorem ub_one {H : Type} (d : DataW H) : 1 ≤ ub d := by
  unfold ub
  cases d with
  | lit l => cases l <;> simp [Go.Proofs.YtimckjnnjakcoaaGreat.Rows.uptoBulk]
  | _ => simp [Go.Proofs.YtimckjnnjakcoaaGreat.Rows.uptoBulk]
theorem ubs_nil {H : Type} : ubs ([] : List (DataW H)) = 0 := by simp [ubs, Go.Proofs.YtimckjnnjakcoaaGreat.Rows.uptoBulkAll]
theorem ubs_cons {H : Type} (d : DataW H) (l : List (DataW H)) : ubs (d :: l) = ub d + ubs l := by simp [ubs, ub, Go.Proofs.YtimckjnnjakcoaaGreat.Rows.uptoBulkAll]
theorem ub_slice {H : Type} (l s : List (DataW H)) : ub (.slice l s) = ubs l + ubs s + 1 := by simp [ubs, ub, Go.Proofs.YtimckjnnjakcoaaGreat.Rows.uptoBulk]
theorem ub_agg {H : Type} (l : List (DataW H)) : ub (.agg l) = ubs l + 1 := by simp [ubs, ub, Go.Proofs.YtimckjnnjakcoaaGreat.Rows.uptoBulk]
theorem ub_bound {H : Type} {l : List (DataW H)} (h : Go.Proofs.YtimckjnnjakcoaaGreat.Rows.uptoSmall H l = true) : ubs l ≤ 1048576 := by
  unfold Go.Proofs.YtimckjnnjakcoaaGreat.Rows.uptoSmall at h; exact of_decide_eq_true h
/-- Whatever lies there as a value of type t, by the argument's own reading, r holds of, and of how much. -/
def Rdu {α : Type} (P : Program) (W : World) (t : TypeId) (r : List Value → α → Prop) (sz : α → Nat) : Prop :=
  ∀ (H : Type) (enc : TypeId × Value → H) (spare : Nat → Bool) (held : Bool) (fuel : Nat) (cs : List Value) (d : DataW H) (pl : List MemPlace),
    DataW.trod enc P W 0 spare held fuel t cs = some (d, pl) → ∃ x, r cs x ∧ sz x ≤ ub d
theorem Rdu.mono {α β : Type} {P : Program} {W : World} {t : TypeId} {r : List Value → α → Prop} {s : α → Nat} {q : List Value → β → Prop} {z : β → Nat} (h : Rdu P W t r s) (k : ∀ cs x, r cs x → ∃ y, q cs y ∧ z y ≤ s x) : Rdu P W t q z :=
  fun H enc sp hd fu cs d pl h1 => by
    obtain ⟨x, hx, hs⟩ := h H enc sp hd fu cs d pl h1
    obtain ⟨y, hy, hz⟩ := k cs x hx
    exact ⟨y, hy, by omega⟩
theorem rdu_int {P : Program} {W : World} {t : TypeId} {k : IntKind} (ht : P.underlying t = some (.int k)) : Rdu P W t (PInt k) (fun _ => 1) := fun H enc sp hd fu cs d pl h => by
  obtain ⟨n, e, _, hw⟩ := DataW.trod_int ht h
  exact ⟨n, ⟨e, hw⟩, ub_one d⟩
/-- A slice: its elements' cells, and what each is. -/
def PSu {α : Type} (A : SP) (k : Nat) (r : List Value → α → Prop) (cs : List Value) (xs : List α) : Prop :=
  ∃ (a : Option Addr) (cap : Nat) (Cs : List (List Value)), cs = [.slice a xs.length cap] ∧ xs.length ≤ cap ∧ Cs.length = xs.length ∧ (∀ i (h : i < xs.length) (h' : i < Cs.length), Cs[i].length = k ∧ r Cs[i] xs[i]) ∧ Rs A a Cs.flatten
def szL {α : Type} (sz : α → Nat) (xs : List α) : Nat := (xs.map sz).sum + 1
theorem sum_ubs {α H : Type} {sz : α → Nat} {f : Nat → α} {D : Nat → DataW H} : ∀ (n : Nat), (∀ i, i < n → sz (f i) ≤ ub (D i)) → (((List.range n).map f).map sz).sum ≤ ubs ((List.range n).map D)
  | 0, _ => by simp
  | n + 1, h => by
    have key : ∀ (l : List Nat), (∀ i ∈ l, sz (f i) ≤ ub (D i)) → ((l.map f).map sz).sum ≤ ubs (l.map D) := by
      intro l
      induction l with
      | nil => intro _; simp
      | cons x l ih =>
        intro h
        simp only [List.map_cons, List.sum_cons, ubs_cons]
        have := h x (by simp)
        have := ih fun i hi => h i (by simp [hi])
        omega
    exact key _ fun i hi => h i (by simpa using hi)
theorem rdu_slice {α : Type} {P : Program} {W : World} {t e : TypeId} {k : Nat} {r : List Value → α → Prop} {sz : α → Nat} (ht : P.underlying t = some (.slice e)) (hk : P.cellsOf e = k) (hk0 : 0 < k) (hr : Rdu P W e r sz) : Rdu P W t (PSu (old W) k r) (szL sz) := fun H enc sp hd fu cs d pl h => by
  rcases Deep.open_slice ht h with ⟨rfl, hx⟩ | ⟨a, len, cap, m, n, D, Pl, rfl, _, hl, _, hm, hx, hel⟩
  · exact ⟨[], ⟨none, 0, [], rfl, Nat.le_refl _, rfl, fun i h => by simp at h, rs_nil⟩, ub_one d⟩
  · have hlm : len ≤ m := by rw [hm]; split <;> omega
    simp only [Prod.mk.injEq] at hx
    obtain ⟨rfl, _⟩ := hx
    have hex : ∀ i, i < len → ∃ p : List Value × α, p.1.length = k ∧ r p.1 p.2 ∧ sz p.2 ≤ ub (D i) ∧ ∀ j v, p.1[j]? = some v → W.cell? (a.add (i * k + j)) = some v := fun i hi => by
      obtain ⟨cs', h1, h2⟩ := hel i (by omega)
      rw [hk] at h1
      obtain ⟨_, hlen, h3⟩ := World.cells?_some h1
      obtain ⟨x, hx, hs⟩ := hr H enc sp hd n cs' (D i) (Pl i) h2
      refine ⟨(cs', x), hlen, hx, hs, fun j v hv => ?_⟩
      have hj : j < k := by have h9 : j < cs'.length := lt_at hv; omega
      have := h3 j hj
      rw [Deep.add_add] at this
      rw [this, hv]
    rw [ub_slice]
    rcases Nat.eq_zero_or_pos len with h0 | h0
    · subst h0
      exact ⟨[], ⟨some a, cap, [], rfl, Nat.zero_le _, rfl, fun i h => by simp at h, rs_nil⟩, by simp [szL]⟩
    · obtain ⟨p0, _⟩ := hex 0 h0
      haveI : Inhabited (List Value × α) := ⟨p0⟩
      obtain ⟨f, hf⟩ := Deep.choose_lt hex
      refine ⟨(List.range len).map fun i => (f i).2, ⟨some a, cap, (List.range len).map fun i => (f i).1, by simp, by simpa using hl, by simp, fun i h h' => ?_, rs_old fun i v hv => ?_⟩, ?_⟩
      · simp only [List.length_map, List.length_range] at h
        simp only [List.getElem_map, List.getElem_range]
        exact ⟨(hf i h).1, (hf i h).2.1⟩
      · have hCk : ∀ c ∈ (List.range len).map fun i => (f i).1, c.length = k := fun c hc => by
          obtain ⟨i, hi, rfl⟩ := List.mem_map.1 hc
          exact (hf i (List.mem_range.1 hi)).1
        have hi := lt_at hv
        rw [flat_length hCk, List.length_map, List.length_range] at hi
        have hq : i / k < len := Nat.div_lt_of_lt_mul (by rw [Nat.mul_comm]; exact hi)
        have hm2 : i % k < k := Nat.mod_lt _ hk0
        have e : i = i / k * k + i % k := (Nat.div_add_mod' i k).symm
        rw [e, flat_at hCk hm2 (by simpa using hq)] at hv
        simp only [List.getElem_map, List.getElem_range] at hv
        rw [e]
        exact (hf (i / k) hq).2.2.2 _ v hv
      · have := sum_ubs (sz := sz) (f := fun i => (f i).2) (D := D) len fun i hi => (hf i hi).2.2.1
        unfold szL; omega
/-- The fields of a struct, one by one. -/
theorem rdu_fields {P : Program} {W : World} {t : TypeId} {fs : Array Field} (ht : P.underlying t = some (.struct fs)) {H : Type} {enc : TypeId × Value → H} {sp : Nat → Bool} {hd : Bool} {fu : Nat} {cs : List Value} {d : DataW H} {pl : List MemPlace}
    (h : DataW.trod enc P W 0 sp hd fu t cs = some (d, pl)) : cs.length = P.cellsOf t ∧ ∃ Ds : List (DataW H), Ds.length = fs.size ∧ ubs Ds + 1 = ub d ∧
    ∀ (j : Nat) (f : Field), fs[j]? = some f → ∀ {α : Type} {r : List Value → α → Prop} {sz : α → Nat}, Rdu P W f.type r sz → ∃ x D, Ds[j]? = some D ∧ r ((cs.drop f.offset).take (P.cellsOf f.type)) x ∧ sz x ≤ ub D := by
  obtain ⟨xs, n, _, hx, hl, hlen, hf⟩ := DataW.trod_struct ht h
  simp only [Prod.mk.injEq] at hx
  obtain ⟨rfl, _⟩ := hx
  refine ⟨hl, xs.map (·.1), by simpa using hlen, (ub_agg _).symm, fun j f hj α r sz hr => ?_⟩
  have hj' : j < xs.length := by
    have h1 : j < fs.size := (Array.getElem?_eq_some_iff.1 hj).1
    have h2 : xs.length = fs.size := by simpa using hlen
    omega
  have := hf j f hj
  rw [List.getElem?_eq_getElem hj'] at this
  obtain ⟨x, h1, h2⟩ := hr H enc sp hd n _ xs[j].1 xs[j].2 this
  exact ⟨x, xs[j].1, by simp [hj'], h1, h2⟩
/-- Bytes. -/
def PByU (A : SP) (cs : List Value) (xs : List Nat) : Prop := ∃ a cap, cs = [.slice a xs.length cap] ∧ xs.length ≤ cap ∧ Rs A a (bys xs) ∧ ∀ x ∈ xs, x < 256
def PInU (A : SP) (cs : List Value) (xs : List Int) : Prop := ∃ a cap, cs = [.slice a xs.length cap] ∧ xs.length ≤ cap ∧ Rs A a (ints xs) ∧ ∀ x ∈ xs, -9223372036854775808 ≤ x ∧ x ≤ 9223372036854775807
theorem sum_ones {α : Type} (xs : List α) : (xs.map fun _ => 1).sum = xs.length := by
  induction xs with
  | nil => rfl
  | cons x xs ih => simp only [List.map_cons, List.sum_cons, ih, List.length_cons]; omega
theorem rdu_bys {P : Program} {W : World} {t e : TypeId} (ht : P.underlying t = some (.slice e)) (he : P.underlying e = some (.int .u8)) (hk : P.cellsOf e = 1) : Rdu P W t (PByU (old W)) (fun xs => xs.length + 1) :=
  (rdu_slice ht hk (by decide) (rdu_int he)).mono fun cs zs ⟨a, cap, Cs, e1, hc, hl, hx, hr⟩ => by
    have hz : ∀ z ∈ zs, 0 ≤ z ∧ z ≤ 255 := fun z hz => by
      obtain ⟨i, hi, rfl⟩ := List.mem_iff_getElem.1 hz
      exact Go.bounds_u8 (hx i hi (by omega)).2.2
    have e2 : Cs.flatten = bys (zs.map Int.toNat) := by
      rw [flat1 (r := PInt .u8) (f := fun z : Int => .int .u8 z) hl (fun i h h' => (hx i h h').2.1), bys, List.map_map]
      refine List.map_congr_left fun z hzm => ?_
      have := hz z hzm
      simp only [Function.comp, b8]; congr 1; omega
    refine ⟨zs.map Int.toNat, ⟨a, cap, by simpa using e1, by simpa using hc, by rw [← e2]; exact hr, fun x hx => ?_⟩, by simp only [List.length_map, szL, sum_ones]; omega⟩
    obtain ⟨z, hzm, rfl⟩ := List.mem_map.1 hx
    have := hz z hzm; omega
theorem rdu_ints {P : Program} {W : World} {t e : TypeId} (ht : P.underlying t = some (.slice e)) (he : P.underlying e = some (.int .i64)) (hk : P.cellsOf e = 1) : Rdu P W t (PInU (old W)) (fun xs => xs.length + 1) :=
  (rdu_slice ht hk (by decide) (rdu_int he)).mono fun cs zs ⟨a, cap, Cs, e1, hc, hl, hx, hr⟩ => by
    refine ⟨zs, ⟨a, cap, e1, hc, ?_, fun z hz => ?_⟩, by simp only [szL, sum_ones]; omega⟩
    · rw [show ints zs = Cs.flatten from (flat1 (r := PInt .i64) (f := fun z : Int => .int .i64 z) hl (fun i h h' => (hx i h h').2.1)).symm]; exact hr
    · obtain ⟨i, hi, rfl⟩ := List.mem_iff_getElem.1 hz
      exact i64_wf (hx i hi (by omega)).2.2
end Go.Vl

set_option linter.unusedVariables false
set_option linter.unusedSimpArgs false
namespace Go.Vl
open Go Go.Proofs
theorem Bytes_k {A R : SP} {C : SP → SP} {d : Nat} {s s2 : DevS} {e : Int} (hc : Ct A (Dev d s) R C := by repeat (first | with_reducible exact ct_here | apply ct_left)) {a : Option Addr} {c m : Nat} {p : Int} {xs : List Nat} (hr : Rs R a (bys xs) := by repeat (first | assumption | with_reducible exact rs_sl | with_reducible exact rs_pt0 | exact rs_none | apply Rs.left)) (hm : xs.length = m := by first | assumption | rfl) (hmc : m ≤ c := by first | assumption | omega) (hb : ∀ x ∈ xs, x < 256 := by first | assumption | decide) (hml : m ≤ 140737488351232 := by omega) (hp : -9223372036854775808 ≤ p ∧ p ≤ 9223372036854775807 := by omega) (hroom : rdy s.ls.length s.off p m = 0 → Room m s := by assumption) (he : bytesP p xs s = (e, s2)) : Fn Tryz.prog 59 #[.pointer (some ⟨d, 0, none⟩), .int .i64 p, .slice a m c] A (fun r B => r = .int .i64 e ∧ B = C (Dev d s2)) := (Bytes_c hc hr hm hmc hb hml hp hroom).mono fun r B ⟨e2, s3, h1, h2, h3⟩ => by
  rw [he] at h1; cases h1; exact ⟨h2, h3⟩
theorem Publish_k {A R : SP} {C : SP → SP} {d : Nat} {s s2 : DevS} {e : Int} (hc : Ct A (Dev d s) R C := by repeat (first | with_reducible exact ct_here | apply ct_left)) {v : Nat} {p : Int} (hp : -9223372036854775808 ≤ p ∧ p ≤ 9223372036854775807 := by omega) (hv : v < 18446744073709551616 := by omega) (hroom : Room 1 s := by assumption) (he : pubP p v s = (e, s2)) : Fn Tryz.prog 26 #[.pointer (some ⟨d, 0, none⟩), .int .i64 p, .int .u64 (v : Nat)] A (fun r B => r = .int .i64 e ∧ B = C (Dev d s2)) := (Publish_c hc hp hv hroom).mono fun r B ⟨e2, s3, h1, h2, h3⟩ => by
  rw [he] at h1; cases h1; exact ⟨h2, h3⟩
theorem Crash_k {A R : SP} {C : SP → SP} {d : Nat} {s s2 : DevS} {e : Int} (hc : Ct A (Dev d s) R C := by repeat (first | with_reducible exact ct_here | apply ct_left)) {a : Option Addr} {c m : Nat} {keep : List Int} (hr : Rs R a (ints keep) := by repeat (first | assumption | with_reducible exact rs_sl | with_reducible exact rs_pt0 | exact rs_none | apply Rs.left)) (hk : ∀ k ∈ keep, k ≤ 9223372036854775807 := by first | assumption | simp) (hm : keep.length = m := by first | assumption | rfl) (hkl : m ≤ 17592186044416 := by omega) (he : crS keep s = (e, s2)) : Fn Tryz.prog 43 #[.pointer (some ⟨d, 0, none⟩), .slice a m c] A (fun r B => r = .int .i64 e ∧ B = C (Dev d s2)) := (Crash_c hc hr hk hm hkl).mono fun r B ⟨e2, s3, h1, h2, h3⟩ => by
  rw [he] at h1; cases h1; exact ⟨h2, h3⟩
theorem Word_k {A R : SP} {C : SP → SP} {d : Nat} {s : DevS} {e : Int} (hc : Ct A (Dev d s) R C := by repeat (first | with_reducible exact ct_here | apply ct_left)) {p : Int} {v : Nat} (hp : -9223372036854775808 ≤ p ∧ p ≤ 9223372036854775807 := by omega) (he : wordP p s = (v, e)) : Fn Tryz.prog 28 #[.pointer (some ⟨d, 0, none⟩), .int .i64 p] A (fun r B => r = .tuple #[.int .u64 (v : Nat), .int .i64 e] ∧ A = B) := by
  have := Word_c hc hp; rw [he] at this; exact this
theorem FL16_k {A R : SP} {C : SP → SP} {d : Nat} {s : DevS} {e : Int} (hc : Ct A (Dev d s) R C := by repeat (first | with_reducible exact ct_here | apply ct_left)) {p : Int} {v : Nat} (hp : -9223372036854775808 ≤ p ∧ p ≤ 9223372036854775807 := by omega) (he : loadP p 2 s = (v, e)) : Fn Tryz.prog 60 #[.agg [Value.int .i64 p].toArray, .pointer (some ⟨d, 0, none⟩)] A (fun r B => r = .tuple #[.int .u16 (v : Nat), .int .i64 e] ∧ A = B) := by
  have := FL16_c hc (p := p) hp; rw [he] at this; exact this
def wk1 : DevS := (bytesP 60 [1, 1, 1, 1, 1, 1, 1, 1] (newS 2)).2
def wk2 : DevS := (pubP 8 258 wk1).2
def wk3 : DevS := (crS [] wk2).2
def wk4 : DevS := { wk3 with off := false }
theorem wk1_e : bytesP 60 [1, 1, 1, 1, 1, 1, 1, 1] (newS 2) = (0, wk1) := Prod.ext (by decide +kernel) rfl
theorem wk2_e : pubP 8 258 wk1 = (0, wk2) := Prod.ext (by decide +kernel) rfl
theorem wk3_e : crS [] wk2 = (0, wk3) := Prod.ext (by decide +kernel) rfl
theorem wk_w : wordP 8 wk4 = (258, 0) := by decide +kernel
theorem wk_f : loadP 9 2 wk4 = (1, 0) := by decide +kernel
theorem wk1_o : wk1.ops = 5 := by decide +kernel
theorem wk4_o : wk4.ops = 8 := by decide +kernel
theorem wk3_o : wk3.off = true := by decide +kernel
attribute [local irreducible] Sl pt ro Dev imgS
set_option maxRecDepth 20000 in
set_option maxHeartbeats 1000000 in
theorem works9_c {A : SP} :
    Fn Tryz.prog 10 #[] (A) (fun r B => r = .bool true ∧ A = B) := by
  refine fn_enterW (args := []) Tryz.func10 rfl Tryz.ntmps10 (by simp) ?_; refine sr ?_; refine tla ?_; refine nq ?_; refine sr ?_; refine tl_c rfl (o_call bd6 rfl (New_c (n := 2))) ?_; rintro _ _ ⟨d8, rfl, rfl⟩; refine tlm ?_; refine tv (o_extract rfl rfl) ?_; refine tv (o_extract rfl rfl) ?_; refine tla ?_; refine tla ?_; refine nq ?_; refine tc_seq ?_; refine sr ?_; refine tlm ?_; refine tv (o_nei rfl rfl) ?_; refine tlm ?_; refine tl_bool (d := 13) rfl (fun h => ?_) (fun h => ?_)
  · (exfalso; first | (revert h; simp; done) | (simp at h; done) | (revert h; simp; omega) | (simp at h; omega) | omega)
  · try simp only [lv1, lv2, lv3, lv4, lv5, lv6, Bool.not_true, Bool.not_false] at h
    refine tlm ?_; refine tv (o_eqp Tryz.underlying24 rfl rfl) ?_; refine tv (o_pick_f rfl (by conv => lhs; whnf)) ?_; refine tlm ?_; refine tl_bool (d := 17) rfl (fun h => ?_) (fun h => ?_)
    · (exfalso; first | (revert h; simp; done) | (simp at h; done) | (revert h; simp; omega) | (simp at h; omega) | omega)
    · try simp only [lv1, lv2, lv3, lv4, lv5, lv6, Bool.not_true, Bool.not_false] at h
      refine tlm ?_; refine tl_x rfl (o_buildSliceL (k := 1) (vs := bys [1, 1, 1, 1, 1, 1, 1, 1]) (l := bys [1, 1, 1, 1, 1, 1, 1, 1]) Tryz.underlying32 sz5 z5 rfl rfl (by decide) (by decide) (by intro v hv; have := List.all_eq_true.1 (bys_all [1, 1, 1, 1, 1, 1, 1, 1]) v hv; cases v <;> first | (simp [oneC] at this; done) | rfl) rfl) ?_; rintro _ _ ⟨b19, rfl, rfl⟩; refine tl_c rfl (o_call bd59 rfl (Bytes_k (xs := [1, 1, 1, 1, 1, 1, 1, 1]) (he := wk1_e) (hroom := fun _ => room_of _ (by decide +kernel)))) ?_; rintro _ _ ⟨rfl, rfl⟩; refine tv (o_nei rfl rfl) ?_; refine tv (o_pick_f rfl (by conv => lhs; whnf)) ?_; refine tlm ?_; refine tl_bool (d := 23) rfl (fun h => ?_) (fun h => ?_)
      · (exfalso; first | (revert h; simp; done) | (simp at h; done) | (revert h; simp; omega) | (simp at h; omega) | omega)
      · try simp only [lv1, lv2, lv3, lv4, lv5, lv6, Bool.not_true, Bool.not_false] at h
        refine tlm ?_; refine tl_c rfl (o_call bd47 rfl (Ops_c)) ?_; rintro _ _ ⟨rfl, rfl⟩; refine tl_env (d := 25) (v := .int .i64 5) (congrArg (Value.int .i64) wk1_o) ?_; refine tv (o_nei rfl rfl) ?_; refine tv (o_pick_f rfl (by conv => lhs; whnf)) ?_; refine nq ?_; refine tc_cond rfl (fun h => ?_) (fun h => ?_)
        · (exfalso; first | (revert h; simp; done) | (simp at h; done) | (revert h; simp; omega) | (simp at h; omega) | omega)
        · try simp only [lv1, lv2, lv3, lv4, lv5, lv6, Bool.not_true, Bool.not_false] at h
          refine tc_skip ?_; refine q_then_n ?_; refine tc_seq ?_; refine sr ?_; refine tlm ?_; refine tl_c rfl (o_call bd26 rfl (Publish_k (v := 258) (he := wk2_e) (hroom := room_of _ (by decide +kernel)))) ?_; rintro _ _ ⟨rfl, rfl⟩; refine tv (o_nei rfl rfl) ?_; refine tlm ?_; refine tl_bool (d := 31) rfl (fun h => ?_) (fun h => ?_)
          · (exfalso; first | (revert h; simp; done) | (simp at h; done) | (revert h; simp; omega) | (simp at h; omega) | omega)
          · try simp only [lv1, lv2, lv3, lv4, lv5, lv6, Bool.not_true, Bool.not_false] at h
            refine tlm ?_; refine tl_c rfl (o_call bd43 rfl (Crash_k (keep := []) (he := wk3_e))) ?_; rintro _ _ ⟨rfl, rfl⟩; refine tv (o_nei rfl rfl) ?_; refine tv (o_pick_f rfl (by conv => lhs; whnf)) ?_; refine tlm ?_; refine tl_bool (d := 36) rfl (fun h => ?_) (fun h => ?_)
            · (exfalso; first | (revert h; simp; done) | (simp at h; done) | (revert h; simp; omega) | (simp at h; omega) | omega)
            · try simp only [lv1, lv2, lv3, lv4, lv5, lv6, Bool.not_true, Bool.not_false] at h
              refine tlm ?_; refine tl_c rfl (o_call bd45 rfl (Wake_c (s := wk3))) ?_; rintro _ _ ⟨rfl, rfl⟩; refine tl_env (d := 38) (v := .int .i64 0) (by rw [wk3_o]; rfl) ?_
              rw [show { wk3 with off := false } = wk4 from rfl]
              refine tv (o_nei rfl rfl) ?_; refine tv (o_pick_f rfl (by conv => lhs; whnf)) ?_; refine nq ?_; refine tc_cond rfl (fun h => ?_) (fun h => ?_)
              · (exfalso; first | (revert h; simp; done) | (simp at h; done) | (revert h; simp; omega) | (simp at h; omega) | omega)
              · try simp only [lv1, lv2, lv3, lv4, lv5, lv6, Bool.not_true, Bool.not_false] at h
                refine tc_skip ?_; refine q_then_n ?_; refine sr ?_; refine tlm ?_; refine tl_c rfl (o_call bd28 rfl (Word_k (he := wk_w))) ?_; rintro _ _ ⟨rfl, rfl⟩; refine tlm ?_; refine tv (o_extract rfl rfl) ?_; refine tv (o_extract rfl rfl) ?_; refine tla ?_; refine tla ?_; refine nq ?_; refine sr ?_; refine tv (o_bS (l := [Value.int .i64 9]) (pv_cons (by conv => lhs; whnf) pv_nil) Tryz.underlying94 z94 (pl94 Tryz.underlying94) rfl) ?_; refine tlm ?_; refine tl_c rfl (o_call bd60 rfl (FL16_k (he := wk_f))) ?_; rintro _ _ ⟨rfl, rfl⟩; refine tlm ?_; refine tv (o_extract rfl rfl) ?_; refine tv (o_extract rfl rfl) ?_; refine tla ?_; refine tla ?_; refine nq ?_; refine sr ?_; refine tlm ?_; refine tv (o_eqi rfl rfl) ?_; refine tlm ?_; refine tl_bool (d := 54) rfl (fun h => ?_) (fun h => ?_)
                · try simp only [lv1, lv2, lv3, lv4, lv5, lv6, Bool.not_true, Bool.not_false] at h
                  refine tlm ?_; refine tv (o_eqi rfl rfl) ?_; refine tv (o_pick_t rfl (by conv => lhs; whnf)) ?_; refine tlm ?_; refine tl_bool (d := 58) rfl (fun h => ?_) (fun h => ?_)
                  · try simp only [lv1, lv2, lv3, lv4, lv5, lv6, Bool.not_true, Bool.not_false] at h
                    refine tlm ?_; refine tv (o_eqi rfl rfl) ?_; refine tv (o_pick_t rfl (by conv => lhs; whnf)) ?_; refine tlm ?_; refine tl_bool (d := 62) rfl (fun h => ?_) (fun h => ?_)
                    · try simp only [lv1, lv2, lv3, lv4, lv5, lv6, Bool.not_true, Bool.not_false] at h
                      refine tlm ?_; refine tv (o_eqi rfl rfl) ?_; refine tv (o_pick_t rfl (by conv => lhs; whnf)) ?_; refine tlm ?_; refine tl_bool (d := 66) rfl (fun h => ?_) (fun h => ?_)
                      · try simp only [lv1, lv2, lv3, lv4, lv5, lv6, Bool.not_true, Bool.not_false] at h
                        refine tlm ?_; refine tl_c rfl (o_call bd47 rfl (Ops_c)) ?_; rintro _ _ ⟨rfl, rfl⟩; refine tl_env (d := 68) (v := .int .i64 8) (congrArg (Value.int .i64) wk4_o) ?_; refine tv (o_eqi rfl rfl) ?_; refine tv (o_pick_t rfl (by conv => lhs; whnf)) ?_; refine tla ?_; refine nq ?_; refine tc_ret ?_; exact ⟨.bool true, A, res1 rfl rfl, Dr.sat (by repeat (first | with_reducible exact dr_refl | apply dr_keep | apply dr_drop)), rfl, rfl⟩
                      · (exfalso; first | (revert h; simp; done) | (simp at h; done) | (revert h; simp; omega) | (simp at h; omega) | omega)
                    · (exfalso; first | (revert h; simp; done) | (simp at h; done) | (revert h; simp; omega) | (simp at h; omega) | omega)
                  · (exfalso; first | (revert h; simp; done) | (simp at h; done) | (revert h; simp; omega) | (simp at h; omega) | omega)
                · (exfalso; first | (revert h; simp; done) | (simp at h; done) | (revert h; simp; omega) | (simp at h; omega) | omega)
def nk1 : DevS := (crS [] (newS 1)).2
end Go.Vl

set_option linter.unusedVariables false
set_option linter.unusedSimpArgs false
namespace Go.Vl
open Go Go.Proofs
/-- An operation's cells. -/
structure Op9 where
  k : Int
  q : Int
  n : Int
  a : Option Addr
  c : Nat
  b : List Nat
  v : Nat
  ka : Option Addr
  kc : Nat
  kp : List Int
def Op9.cells (t : Op9) : List Value := [.int .i64 t.k, .int .i64 t.q, .int .i64 t.n, .slice t.a t.b.length t.c, .int .u64 (t.v : Nat), .slice t.ka t.kp.length t.kc]
structure Op9W (A : SP) (t : Op9) : Prop where
  cap : t.b.length ≤ t.c
  rs : Rs A t.a (bys t.b)
  byt : ∀ x ∈ t.b, x < 256
  v : t.v < 18446744073709551616
  kcap : t.kp.length ≤ t.kc
  krs : Rs A t.ka (ints t.kp)
  kb : ∀ x ∈ t.kp, -9223372036854775808 ≤ x ∧ x ≤ 9223372036854775807
  q : -9223372036854775808 ≤ t.q ∧ t.q ≤ 9223372036854775807
  n : -9223372036854775808 ≤ t.n ∧ t.n ≤ 9223372036854775807
def Op9.sz (t : Op9) : Nat := t.b.length + t.kp.length + 1
def ocs (l : List Op9) : List Value := l.flatMap Op9.cells
theorem ocs_length (l : List Op9) : (ocs l).length = l.length * 6 := by
  induction l with
  | nil => rfl
  | cons t l ih => simp only [ocs, List.flatMap_cons, List.length_append, List.length_cons] at *; rw [ih]; simp [Op9.cells]; omega
theorem ocs_at : ∀ {l : List Op9} {j : Nat} (h : j < l.length), ((ocs l).drop (j * 6)).take 6 = l[j].cells
  | t :: l, 0, _ => by simp [ocs, Op9.cells]
  | t :: l, j + 1, h => by
    have e : (j + 1) * 6 = t.cells.length + j * 6 := by simp [Op9.cells]; omega
    rw [e]
    show ((t.cells ++ ocs l).drop _).take 6 = _
    rw [← List.drop_drop, List.drop_left]
    exact ocs_at (by simpa using h)
theorem flatF' {α : Type} {f : α → List Value} : ∀ {Cs : List (List Value)} {xs : List α} (_ : Cs.length = xs.length) (_ : ∀ i (h : i < xs.length) (h' : i < Cs.length), Cs[i] = f xs[i]), Cs.flatten = xs.flatMap f
  | [], [], _, _ => rfl
  | c :: Cs, x :: xs, hl, h => by
    have h0 := h 0 (by simp) (by simp)
    simp only [List.getElem_cons_zero] at h0
    rw [List.flatten_cons, h0, flatF' (f := f) (Cs := Cs) (xs := xs) (by simpa using hl) (fun i hi hi' => h (i + 1) (by simpa using hi) (by simpa using hi')), List.flatMap_cons]
theorem u64_wf' {x : Int} (h : (Lit.int .u64 x).wf = true) : ∃ m : Nat, x = m ∧ m < 18446744073709551616 := by
  have hb := Go.bounds_u64 h
  obtain ⟨m, rfl⟩ := Int.eq_ofNat_of_zero_le hb.1
  exact ⟨m, rfl, by omega⟩
theorem six_of {α : Type} : ∀ {l : List α}, l.length = 6 → ∃ a b c d e f, l = [a, b, c, d, e, f]
  | [a, b, c, d, e, f], _ => ⟨a, b, c, d, e, f, rfl⟩
set_option maxRecDepth 20000 in
theorem rdu_op (W : World) : Rdu Tryz.prog W 36 (fun cs (t : Op9) => cs = t.cells ∧ Op9W (old W) t) Op9.sz := fun H enc sp hd fu cs d pl h => by
  obtain ⟨hl, Ds, hD, hs, hf⟩ := rdu_fields Tryz.underlying36 h
  have hc : Tryz.prog.cellsOf 36 = 6 := by kernel_rfl
  have hci : Tryz.prog.cellsOf 3 = 1 := by kernel_rfl
  have hcu : Tryz.prog.cellsOf 33 = 1 := by kernel_rfl
  have hcb : Tryz.prog.cellsOf 32 = 1 := by kernel_rfl
  have hck : Tryz.prog.cellsOf 34 = 1 := by kernel_rfl
  rw [hc] at hl
  obtain ⟨k, D0, _, ⟨e0, _⟩, _⟩ := hf 0 _ rfl (rdu_int Tryz.underlying3)
  obtain ⟨q, D1, _, ⟨e1, w1⟩, _⟩ := hf 1 _ rfl (rdu_int Tryz.underlying3)
  obtain ⟨n, D2, _, ⟨e2, w2⟩, _⟩ := hf 2 _ rfl (rdu_int Tryz.underlying3)
  obtain ⟨b, D3, h3, ⟨a, c, e3, g3, r3, l3⟩, s3⟩ := hf 3 _ rfl (rdu_bys Tryz.underlying32 Tryz.underlying5 (by kernel_rfl))
  obtain ⟨v, D4, _, ⟨e4, w4⟩, _⟩ := hf 4 _ rfl (rdu_int Tryz.underlying33)
  obtain ⟨kp, D5, h5, ⟨ka, kc, e5, g5, r5, l5⟩, s5⟩ := hf 5 _ rfl (rdu_ints Tryz.underlying34 Tryz.underlying3 (by kernel_rfl))
  obtain ⟨m, rfl, hm⟩ := u64_wf' w4
  obtain ⟨d0, d1, d2, d3, d4, d5, rfl⟩ := six_of (show Ds.length = 6 from hD)
  obtain ⟨c0, c1, c2, c3, c4, c5, rfl⟩ := six_of hl
  simp only [List.getElem?_cons_succ, List.getElem?_cons_zero, Option.some.injEq] at h3 h5
  subst h3 h5
  simp only [ubs_cons, ubs_nil] at hs
  simp [hci] at e0 e1 e2
  simp [hcu] at e4
  simp [hcb] at e3
  simp [hck] at e5
  subst e0 e1 e2 e3 e4 e5
  exact ⟨⟨k, q, n, a, c, b, m, ka, kc, kp⟩, ⟨rfl, ⟨g3, r3, l3, hm, g5, r5, l5, i64_wf w1, i64_wf w2⟩⟩, by unfold Op9.sz; simp only []; omega⟩
def POps (A : SP) (cs : List Value) (ops : List Op9) : Prop := ∃ a cap, cs = [.slice a ops.length cap] ∧ ops.length ≤ cap ∧ Rs A a (ocs ops) ∧ ∀ t ∈ ops, Op9W A t
theorem rdu_ops (W : World) : Rdu Tryz.prog W 22 (POps (old W)) (szL Op9.sz) :=
  (rdu_slice (k := 6) Tryz.underlying22 (by kernel_rfl) (by decide) (rdu_op W)).mono fun cs ss ⟨a, cap, Cs, e1, hc, hl, hx, hr⟩ => by
    refine ⟨ss, ⟨a, cap, e1, hc, ?_, fun t ht => ?_⟩, Nat.le_refl _⟩
    · rw [show ocs ss = Cs.flatten from (flatF' hl (fun i h h' => (hx i h h').2.1)).symm]; exact hr
    · obtain ⟨i, hi, rfl⟩ := List.mem_iff_getElem.1 ht
      exact (hx i hi (by omega)).2.2
/-! ### An operation on the device alone -/
def rawS (t : Op9) (s : DevS) : DevS := if t.k = 7 then (sto ((wi t.q 256 : Nat) : Int) (t.b.take (256 - wi t.q 256)) s).2 else if t.k = 8 then (fl1 ((wi t.q 256 : Nat) : Int) s).2 else if t.k = 9 then (fe s).2 else s
theorem room_le {a b : Nat} {s : DevS} (h : Room a s) (hab : b ≤ a) : Room b s := fun l hl => Nat.le_trans (Nat.add_le_add_left hab _) (h l hl)
def rawL (l : List Op9) (s : DevS) : DevS := l.foldl (fun s t => rawS t s) s
/-- The same, but what would be stored into the range is passed over. -/
def rawB (at_ m : Nat) (t : Op9) (s : DevS) : DevS := if t.k = 7 ∧ wi t.q 256 < at_ + m ∧ at_ < wi t.q 256 + t.b.length then s else rawS t s
def rawLB (at_ m : Nat) (l : List Op9) (s : DevS) : DevS := l.foldl (fun s t => rawB at_ m t s) s
theorem cut_none {a : Option Addr} {c : Nat} : cutAddr a c 0 1 = a := by
  unfold cutAddr
  split
  · rfl
  · cases a <;> simp [Addr.add]
theorem wi_val' {p : Int} {n : Nat} (h : 0 < n) : (Value.int .i64 (p % (n : Int))) = .int .i64 ((wi p n : Nat) : Int) := congrArg (Value.int .i64) (wi_cast h)
attribute [local irreducible] Sl pt ro Dev imgS
theorem Within_c {A : SP} {i n : Int} (hn : 0 < n ∧ n ≤ 9223372036854775807 := by omega) :
    Fn Tryz.prog 5 #[.int .i64 i, .int .i64 n] (A) (fun r B => r = .int .i64 (i % n) ∧ A = B) := by
  refine fn_enterW (args := [.int .i64 i, .int .i64 n]) Tryz.func5 rfl Tryz.ntmps5 (by simp) ?_
  have hb := tmod_lt' (a := i) hn.1
  refine sr ?_; refine tla ?_; refine nq ?_; refine sr ?_; refine tlm ?_; refine tlm ?_; refine tv (o_rem (a := i) (b := n) rfl rfl (by omega)) ?_; refine tla ?_; refine nq ?_; refine tc_seq ?_; refine sr ?_; refine tlm ?_; refine tv (o_lss rfl rfl) ?_; refine nq ?_; refine tc_cond rfl (fun h => ?_) (fun h => ?_)
  · try simp only [lv1, lv2, lv3, lv4, lv5, lv6, Bool.not_true, Bool.not_false] at h
    refine tc_reg ?_; refine tlm ?_; refine tlm ?_; refine tv (o_addI (a := i.tmod n) (b := n) rfl rfl (by omega)) ?_; refine tla ?_; refine nq ?_; refine sr ?_; refine tlm ?_; refine tla ?_; refine nq ?_; refine tc_ret ?_; exact ⟨.int .i64 (i.tmod n + n), A, res1 rfl rfl, fun _ _ h => h, by rw [within_neg hn.1 h], rfl⟩
  · try simp only [lv1, lv2, lv3, lv4, lv5, lv6, Bool.not_true, Bool.not_false] at h
    refine tc_skip ?_; refine q_then_n ?_; refine sr ?_; refine tlm ?_; refine tla ?_; refine nq ?_; refine tc_ret ?_; exact ⟨.int .i64 (i.tmod n), A, res1 rfl rfl, fun _ _ h => h, by rw [within_pos hn.1 h], rfl⟩
end Go.Vl

set_option linter.unusedVariables false
set_option linter.unusedSimpArgs false
namespace Go.Vl
open Go Go.Proofs
theorem Op9W.left {A X : SP} {t : Op9} (h : Op9W A t) : Op9W (A * X) t := ⟨h.cap, h.rs.left, h.byt, h.v, h.kcap, h.krs.left, h.kb, h.q, h.n⟩
theorem room_new {n m : Nat} (h : m ≤ 2199023255551) : Room m (newS n) := fun l hl => by
  simp only [newS, List.mem_replicate] at hl; rw [hl.2]; simp [zline]; omega
/-- What PersistLasts is handed. -/
structure RgC where
  ba : Option Addr
  bc : Nat
  bef : List Op9
  q : Int
  a : Option Addr
  c : Nat
  b : List Nat
  ha : Option Addr
  hc : Nat
  beh : List Op9
  ka : Option Addr
  kc : Nat
  kp : List Int
def RgC.cells (t : RgC) : List Value := [.slice t.ba t.bef.length t.bc, .int .i64 t.q, .slice t.a t.b.length t.c, .slice t.ha t.beh.length t.hc, .slice t.ka t.kp.length t.kc]
structure RgW (A : SP) (t : RgC) : Prop where
  hrb : Rs A t.ba (ocs t.bef)
  hwb : ∀ x ∈ t.bef, Op9W A x
  hrh : Rs A t.ha (ocs t.beh)
  hwh : ∀ x ∈ t.beh, Op9W A x
  hr : Rs A t.a (bys t.b)
  hb : ∀ x ∈ t.b, x < 256
  hcap : t.b.length ≤ t.c
  hrk : Rs A t.ka (ints t.kp)
end Go.Vl

set_option linter.unusedVariables false
set_option linter.unusedSimpArgs false
namespace Go.Vl
open Go Go.Proofs
section
variable {P : Program} {n : Nat} {ρ : Env} {dst : Option Nat} {ty : TypeId} {pos : String} {after : Array Edge} {gd : Option (Nat × Bool)} {A : SP}
end
def rdT (n : Nat) (I : List Nat) : List Int × Int := if I.take 64 = sbB [n, 128, 32768, 32896, (n - 32896) / 256, 0] then ([(n : Int), ((128 : Nat) : Int), ((32768 : Nat) : Int), ((32896 : Nat) : Int), (((n - 32896) / 256 : Nat) : Int)], 0) else ([0, 0, 0, 0, 0], 100)
attribute [local irreducible] crk crL crc Sl pt ro mbs sbB planT Dev imgS
end Go.Vl

set_option linter.unusedVariables false
set_option linter.unusedSimpArgs false
namespace Go.Vl
open Go Go.Proofs
/-- The mark of a place. -/
def mk (i k : Nat) : Nat := (i * 31 + k * 7 + 1) % 256
/-- The marks of a list. -/
def mks (i n : Nat) : List Nat := (List.range n).map (mk i)
def mkL (j : Nat) (l : List Nat) : List Nat := mks j l.length
/-- Lists that bear their marks; the first of them is number j. -/
def PM : Nat → List Value → List Nat → SP
  | j, v :: vs, n :: ns => PM (j + 1) vs ns * Sl 1 v n (bys (mks j n))
  | _, [], [] => emp
  | _, _, _ => pure_ False
/-- Such lists, and what they were grown to. -/
def GP : Nat → List Value → List Value → List Nat → SP
  | j, v :: vs, g :: gs, n :: ns => GP (j + 1) vs gs ns * Gr v n (bys (mks j n)) g (n + 70) (bys (mks j (n + 70)))
  | _, [], [], [] => emp
  | _, _, _, _ => pure_ False
theorem parts_row {vs : List Value} {ls : List (List Nat)} {i : Nat} (h : vs.length = ls.length) (hi : i < ls.length) : ∃ R, (∀ A, A * Parts vs ls = A * R * Sl 1 (vs[i]'(by omega)) ls[i].length (bys ls[i])) ∧ ∀ A l, A * R * Sl 1 (vs[i]'(by omega)) l.length (bys l) = A * Parts vs (ls.set i l) := by
  obtain ⟨R, e1, e2⟩ := parts_get (vs := vs) (ls := ls) h hi
  refine ⟨R, fun A => by rw [e1, star_assoc], fun A l => ?_⟩
  have := e2 (vs[i]'(by omega)) l
  rw [set_getElem (by omega)] at this
  rw [this, star_assoc]
attribute [local irreducible] Sl SlR pt ro Parts Gr
end Go.Vl

set_option linter.unusedVariables false
set_option linter.unusedSimpArgs false
namespace Go.Vl
open Go Go.Proofs
attribute [local irreducible] crk crL crc Sl pt ro mbs sbB planT Dev imgS
/-- What Read and Root answer. -/
def rdA (s : DevS) : List Int × Int := if s.off = true then ([0, 0, 0, 0, 0], 5) else if 578 ≤ s.ls.length then rdT (s.ls.length * 64) (imgS s) else ([0, 0, 0, 0, 0], 100)
def rootA (s : DevS) : Nat × Int := if (rdA s).2 ≠ 0 then (0, (rdA s).2) else wordP 64 s
end Go.Vl

set_option linter.unusedVariables false
set_option linter.unusedSimpArgs false
namespace Go.Vl
open Go Go.Proofs
/-- Every line has one content alone. -/
def Cln (s : DevS) : Prop := ∀ l ∈ s.ls, l.st.length = 1
def chunk (q : Nat) (I : List Nat) : List Nat := (I.drop (q * 64)).take 64
/-- Every content of every line is as X says. -/
def Poss (X : Nat → List Nat → Prop) (s : DevS) : Prop := ∀ (q : Nat) (l : LineS), s.ls[q]? = some l → ∀ σ ∈ l.st, X q (lb σ)
theorem poss_sub {X : Nat → List Nat → Prop} {s s' : DevS} (h : Poss X s) (hs : ∀ (q : Nat) (l' : LineS), s'.ls[q]? = some l' → ∃ l : LineS, s.ls[q]? = some l ∧ ∀ σ ∈ l'.st, σ ∈ l.st) : Poss X s' := fun q l' hl' σ hσ => by
  obtain ⟨l, hl, hsub⟩ := hs _ _ hl'
  exact h q l hl σ (hsub σ hσ)
theorem goes_sub {kp : List Int} {s : DevS} (hw : WfD s) (q : Nat) (l' : LineS) (hl' : (goesS kp s).ls[q]? = some l') : ∃ l : LineS, s.ls[q]? = some l ∧ (∀ σ ∈ l'.st, σ ∈ l.st) ∧ l'.st.length = 1 := by
  simp only [goesS, goPart, List.getElem?_mapIdx] at hl'
  cases e : s.ls[q]? with
  | none => rw [e] at hl'; cases hl'
  | some l =>
    rw [e] at hl'
    simp only [Option.map_some, Option.some.injEq] at hl'
    have hq := (List.getElem?_eq_some_iff.1 e).1
    subst hl'
    rw [if_pos hq]
    refine ⟨l, rfl, fun σ hσ => ?_, rfl⟩
    have hp : 0 < l.st.length := List.length_pos_iff.2 (hw.line l (List.mem_of_getElem? e)).ne
    have hk := kOf_lt (keep := kp) (i := q) hp
    simp only [goL, List.mem_singleton] at hσ
    rw [hσ]; simp [List.getD, hk]
theorem goes_poss {kp : List Int} {s : DevS} {X : Nat → List Nat → Prop} (hw : WfD s) (h : Poss X s) : Poss X (goesS kp s) := poss_sub h fun q l' hl' => by
  obtain ⟨l, h1, h2, _⟩ := goes_sub hw q l' hl'; exact ⟨l, h1, h2⟩
theorem goes_cln {kp : List Int} {s : DevS} (hw : WfD s) : Cln (goesS kp s) := fun l hl => by
  obtain ⟨q, hq, rfl⟩ := List.mem_iff_getElem.1 hl
  obtain ⟨_, _, _, h⟩ := goes_sub hw q _ (List.getElem?_eq_getElem hq); exact h
/-- The state behind a loss. -/
def Lost (X : Nat → List Nat → Prop) (n : Nat) (s : DevS) : Prop := s.off = true ∧ WfD s ∧ Cln s ∧ Poss X s ∧ s.ls.length = n
theorem done_loss {X : Nat → List Nat → Prop} {s : DevS} (hw : WfD s) (h : Poss X s) : (doneE s = 0 ∧ (doneS s).ls = s.ls ∧ (doneS s).off = s.off) ∨ (doneE s = 5 ∧ Lost X s.ls.length (doneS s)) := by
  have hw' := doneS_wf hw
  have hl := doneS_len s
  unfold Lost doneE doneS at *
  cases e : s.arms with
  | nil => exact .inl ⟨rfl, rfl, rfl⟩
  | cons a ar =>
    simp only [e] at hw' hl ⊢
    by_cases c : wr64 (s.cnt + 1) < a.1
    · rw [if_pos c, if_pos c]; exact .inl ⟨rfl, rfl, rfl⟩
    · rw [if_neg c] at hw' hl
      rw [if_neg c, if_neg c]
      have hw2 : WfD { s with ops := wr64 (s.ops + 1), arms := ar, cnt := 0 } := by
        refine ⟨hw.pos, hw.top, hw.line, ?_, ?_, ?_⟩
        · have := hw.arms; rw [e] at this; simp at this ⊢; omega
        · intro x hx; exact hw.after x (by rw [e]; exact List.mem_cons_of_mem _ hx)
        · intro x hx; exact hw.keeps x (by rw [e]; exact List.mem_cons_of_mem _ hx)
      exact .inr ⟨rfl, rfl, hw', goes_cln hw2, goes_poss hw2 h, hl⟩
/-- What holds behind a store that went well, seen from before. -/
def Went (X : Nat → List Nat → Prop) (p m : Nat) (s s2 : DevS) : Prop := s2.off = false ∧ WfD s2 ∧ Poss X s2 ∧ s2.ls.length = s.ls.length ∧ ∀ q : Nat, (q + 1) * 64 ≤ p ∨ p + m ≤ q * 64 → s2.ls[q]? = s.ls[q]?
end Go.Vl

set_option linter.unusedVariables false
set_option linter.unusedSimpArgs false
namespace Go.Vl
open Go Go.Proofs
theorem done_room {r : Nat} {s : DevS} (hw : WfD s) (h : Room r s) : Room r (doneS s) := by
  rcases done_loss (X := fun _ _ => True) hw (fun _ _ _ _ _ => trivial) with ⟨_, h2, _⟩ | ⟨_, h1, h2, h3, _, h5⟩
  · unfold Room; rw [h2]; exact h
  · intro l hl
    have hp := hw.pos
    have h0 := h _ (List.getElem_mem hp)
    have h4 := List.length_pos_iff.2 (hw.line _ (List.getElem_mem hp)).ne
    have := h3 l hl
    omega
theorem storeF_room : ∀ (m : Nat) {p r : Nat} {b : List Nat} {s : DevS}, b.length = m → WfD s → (∀ x ∈ b, x < 256) → Room (r + m) s → Room r (storeF b.length p b s).2 ∧ WfD (storeF b.length p b s).2 := by
  intro m
  induction m using Nat.strongRecOn with
  | _ m ih =>
    intro p r b s hm hw hb hroom
    by_cases h0 : b = []
    · subst h0
      rw [storeF_nil]
      exact ⟨room_le hroom (by omega), hw⟩
    · have hpos : 0 < b.length := List.length_pos_iff.2 h0
      have hr1 : Room 1 s := room_le hroom (by omega)
      have hwL := layS_wf (at_ := p - p % 8) hw hr1 (stW_nm (p := p) (s := s) hb)
      have hroom2 : Room (r + (m - min m (8 - p % 8))) (layS (p - p % 8) (nm (stW p b s)) s) := fun l hl => by
        have := onLine_room (r := r + m - 1) (f := layL ((p - p % 8) % 64 / 8) (nm (stW p b s))) (i := (p - p % 8) / 64) (fun l hl => by have := hroom l hl; omega) (fun l => by simp [layL]) l hl
        omega
      have hk : (b.drop (8 - p % 8)).length = m - min m (8 - p % 8) := by rw [List.length_drop]; omega
      rw [storeF_step h0]
      split
      · exact ⟨room_le (done_room hwL hroom2) (by omega), doneS_wf hwL⟩
      · exact ih (m - min m (8 - p % 8)) (by omega) hk (doneS_wf hwL) (fun x hx => hb x (List.mem_of_mem_drop hx)) (done_room hwL hroom2)
theorem fence_wf {s : DevS} (hw : WfD s) : WfD (fenceS s) := ⟨by simp [fenceS]; exact hw.pos, by simp [fenceS]; exact hw.top, fun l hl => by
  simp only [fenceS, List.mem_map] at hl
  obtain ⟨l0, h0, rfl⟩ := hl
  exact fenceL_wf (hw.line l0 h0), hw.arms, hw.after, hw.keeps⟩
theorem flF_room {r : Nat} : ∀ (k q : Nat) (s : DevS), WfD s → Room r s → Room r (flF k q s).2 ∧ WfD (flF k q s).2
  | 0, q, s, hw, h => by
    rw [flF_zero]
    unfold fe
    split
    · exact ⟨h, hw⟩
    · refine ⟨done_room (fence_wf hw) fun l hl => ?_, doneS_wf (fence_wf hw)⟩
      simp only [fenceS, List.mem_map] at hl
      obtain ⟨l0, h0, rfl⟩ := hl
      have h3 : (fenceL l0).st.length ≤ l0.st.length := by unfold fenceL; split <;> simp
      have := h l0 h0
      omega
  | k + 1, q, s, hw, h => by
    have hk : Room r (fl1 ((q * 64 : Nat) : Int) s).2 ∧ WfD (fl1 ((q * 64 : Nat) : Int) s).2 := by
      unfold fl1
      split
      · exact ⟨h, hw⟩
      · refine ⟨done_room (flushS_wf hw) fun l hl => ?_, doneS_wf (flushS_wf hw)⟩
        unfold flushS onLine at hl
        split at hl
        · rcases List.mem_or_eq_of_mem_set hl with h1 | h1
          · exact h l h1
          · rw [h1]
            rename_i l0 e
            exact h l0 (List.mem_of_getElem? e)
        · exact h l hl
    show Room r (if _ then _ else _ : Int × DevS).2 ∧ WfD (if _ then _ else _ : Int × DevS).2
    split
    · exact hk
    · exact flF_room k (q + 1) _ hk.2 hk.1
theorem bytesP_room {r : Nat} {p : Int} {u : List Nat} {s : DevS} (hw : WfD s) (hb : ∀ x ∈ u, x < 256) (h : Room (r + u.length) s) : Room r (bytesP p u s).2 ∧ WfD (bytesP p u s).2 := by
  have h0 : Room r s := room_le h (by omega)
  have h1 : Room r (sto p u s).2 ∧ WfD (sto p u s).2 := by
    unfold sto
    split
    · exact ⟨h0, hw⟩
    · exact storeF_room u.length rfl hw hb h
  unfold bytesP
  split
  · exact ⟨h0, hw⟩
  · split
    · exact ⟨h0, hw⟩
    · split
      · exact h1
      · exact flF_room _ _ _ h1.2 h1.1
/-- Steps, one behind the other. -/
def fmtF : List (Nat × List Nat) → DevS → Int × DevS
  | [], s => (0, s)
  | t :: l, s => if (bytesP (t.1 : Int) t.2 s).1 ≠ 0 then bytesP (t.1 : Int) t.2 s else fmtF l (bytesP (t.1 : Int) t.2 s).2
def fst4 (n : Nat) : List (Nat × List Nat) := [(0, (List.replicate 64 0)), (64, (List.replicate 64 0)), (128, (List.replicate 64 0)), (0, sbB [n, 128, 32768, 32896, (n - 32896) / 256, 0])]
def stC (l : List (Nat × List Nat)) : List Value := l.flatMap fun t => .int .i64 (t.1 : Int) :: bys t.2
/-- What Format answers, and the device behind it. -/
def fmA (n : Nat) (s : DevS) : List Int × Int := if (fmtF (fst4 n) s).1 ≠ 0 then ([0, 0, 0, 0, 0], (fmtF (fst4 n) s).1) else ([(n : Int), ((128 : Nat) : Int), ((32768 : Nat) : Int), ((32896 : Nat) : Int), (((n - 32896) / 256 : Nat) : Int)], 0)
attribute [local irreducible] crk crL crc Sl pt ro mbs sbB planT Dev imgS
end Go.Vl

set_option linter.unusedVariables false
set_option linter.unusedSimpArgs false
namespace Go.Vl
open Go Go.Proofs
def zz : List Nat := List.replicate 64 0
def LostI (n : Nat) (xs I : List Nat) : Prop := I.length = n ∧ I.drop 192 = xs.drop 192 ∧ (I.take 192 = xs.take 192 ∨ I.take 64 ≠ sbB [n, 128, 32768, 32896, (n - 32896) / 256, 0] ∨ (I.drop 64).take 128 = List.replicate 128 0)
def DoneI (n : Nat) (xs I : List Nat) : Prop := I.length = n ∧ I.drop 192 = xs.drop 192 ∧ I.take 64 = sbB [n, 128, 32768, 32896, (n - 32896) / 256, 0] ∧ (I.drop 64).take 128 = List.replicate 128 0
end Go.Vl

set_option linter.unusedVariables false
set_option linter.unusedSimpArgs false
namespace Go.Vl
open Go Go.Proofs
def PSteps (A : SP) (cs : List Value) (ss : List StepC) : Prop := ∃ a cap, cs = [.slice a ss.length cap] ∧ ss.length ≤ cap ∧ ss.length ≤ 1353245080300 ∧ Rs A a (scs ss) ∧ ∀ t ∈ ss, t.v < 18446744073709551616
end Go.Vl

set_option linter.unusedVariables false
set_option linter.unusedSimpArgs false
namespace Go.Vl
open Go Go.Proofs
structure ImC where
  sz : Int
  fl : Int
  ha : Option Addr
  hcp : Nat
  hd : List Nat
  rt : Bool
  tn : Int
def ImC.cells (t : ImC) : List Value := [.int .i64 t.sz, .int .u8 t.fl, .slice t.ha t.hd.length t.hcp, .bool t.rt, .int .i64 t.tn]
def PImg (A : SP) (cs : List Value) (t : ImC) : Prop := cs = t.cells ∧ Rs A t.ha (bys t.hd) ∧ (∀ x ∈ t.hd, x < 256) ∧ t.hd.length ≤ t.hcp ∧ t.hd.length ≤ 140737488351232 ∧ (0 ≤ t.fl ∧ t.fl < 256) ∧ (-9223372036854775808 ≤ t.tn ∧ t.tn ≤ 9223372036854775807) ∧ (-9223372036854775808 ≤ t.sz ∧ t.sz ≤ 9223372036854775807)
end Go.Vl

set_option linter.unusedVariables false
set_option linter.unusedSimpArgs false
namespace Go.Vl
open Go Go.Proofs
theorem parts_nil : Parts [] [] = emp := rfl
theorem ctS_out {s : DevS} {q : Nat} (h : ¬ q < s.ls.length) : ctS q s = [] := by
  unfold ctS
  have : s.ls.getD q ⟨[], 0⟩ = ⟨[], 0⟩ := by simp [List.getD, List.getElem?_eq_none (show s.ls.length ≤ q by omega)]
  rw [this]; rfl
/-- Rows that are read. -/
structure RwF (A : SP) (a : Option Addr) (vs : List Value) (ls : List (List Nat)) : Prop where
  len : vs.length = ls.length
  rd : Rs A a vs
  row : ∀ i (h : i < ls.length), ∃ b c, vs[i]? = some (.slice b ls[i].length c) ∧ Rs A b (bys ls[i])
theorem RwF.left {A X : SP} {a : Option Addr} {vs : List Value} {ls : List (List Nat)} (h : RwF A a vs ls) : RwF (A * X) a vs ls := ⟨h.len, h.rd.left, fun i hi => let ⟨b, c, e, hr⟩ := h.row i hi; ⟨b, c, e, hr.left⟩⟩
/-- What a list of owned rows reads. -/
theorem rwF_parts {F : SP} {a : Option Addr} {m c : Nat} {vs : List Value} {ls : List (List Nat)} {g : Gh} {w : World} (h : sat g w (F * Parts vs ls * Sl 1 (.slice a m c) m vs)) : RwF (F * Parts vs ls * Sl 1 (.slice a m c) m vs) a vs ls := by
  have hl := parts_len h.left
  refine ⟨hl, rs_sl, fun i hi => ?_⟩
  obtain ⟨R, e1, _⟩ := parts_row hl hi
  have e : F * Parts vs ls * Sl 1 (.slice a m c) m vs = F * R * Sl 1 (.slice a m c) m vs * Sl 1 (vs[i]'(by omega)) ls[i].length (bys ls[i]) := by rw [e1, star_swap]
  obtain ⟨b, cb, e2, _, _, e5⟩ := sl_have' e h
  exact ⟨b, cb, by rw [List.getElem?_eq_getElem (by omega), e2], rs_rd e5⟩
attribute [local irreducible] Sl pt ro imgS Parts
theorem EqRows_c {A : SP} {a1 a2 : Option Addr} {c1 c2 n m : Nat} {vs ws : List Value} {ls ms : List (List Nat)} (h1 : RwF A a1 vs ls) (h2 : RwF A a2 ws ms) (hn : ls.length = n) (hm : ms.length = m) (hnl : n ≤ 4611686018427387904) (hml : m ≤ 4611686018427387904) (hl1 : ∀ l ∈ ls, l.length ≤ 4611686018427387904) (hl2 : ∀ l ∈ ms, l.length ≤ 4611686018427387904) :
    Fn Tryz.prog 56 #[.slice a1 n c1, .slice a2 m c2] (A) (fun v B => v = .bool (decide (ls = ms)) ∧ A = B) := by
  refine fn_enterW (args := [.slice a1 n c1, .slice a2 m c2]) Tryz.func56 rfl Tryz.ntmps56 (by simp) ?_; refine sr ?_; refine tla ?_; refine nq ?_; refine tc_seq ?_; refine sr ?_; refine tlm ?_; refine tv (o_len Tryz.underlying88 rfl) ?_; refine tlm ?_; refine tv (o_len Tryz.underlying88 rfl) ?_; refine tv (o_nei rfl rfl) ?_; refine nq ?_; refine tc_cond rfl (fun h => ?_) (fun h => ?_)
  · try simp only [lv1, lv2, lv3, lv4, lv5, lv6, Bool.not_true, Bool.not_false] at h
    refine sr ?_; refine tla ?_; refine nq ?_; refine tc_ret ?_; refine q_then_r ?_; refine ⟨.bool false, _, res1 rfl rfl, ?_, (by rw [decide_eq_false]; intro e; subst e; omega), rfl⟩; exact Dr.sat (by repeat (first | with_reducible exact dr_refl | apply dr_keep | apply dr_drop))
  · try simp only [lv1, lv2, lv3, lv4, lv5, lv6, Bool.not_true, Bool.not_false] at h
    refine tc_skip ?_; refine q_then_n ?_; refine tc_seq ?_; refine sr ?_; refine tla ?_; refine nq ?_; refine tc_block ?_; refine tc_loop (fun kk ρ BB => ∃ (i : Nat), (i ≤ n) ∧ (ls.take i = ms.take i) ∧ kk = n - i ∧ ρ 5 = .int .i64 (i : Nat) ∧ ρ 0 = .slice a1 n c1 ∧ ρ 1 = .slice a2 m c2 ∧ BB = A) (m := n - (0)) ?_ ?_
    · exact ⟨0, by omega, rfl, rfl, rfl, rfl, rfl, rfl⟩
    · intro k ρ B hI
      obtain ⟨i, hp0, hp1, hkk1, hE5, hE0, hE1, hBA⟩ := hI
      obtain rfl := hBA.symm
      refine tc_env (d := 5) hE5 ?_; refine tc_env (d := 0) hE0 ?_; refine tc_env (d := 1) hE1 ?_
      clear hE5 hE0 hE1
      refine tc_seq ?_; refine sr ?_; refine tlm ?_; refine tlm ?_; refine tv (o_len Tryz.underlying88 rfl) ?_; refine tv (o_lss rfl rfl) ?_; refine nq ?_; refine tc_cond rfl (fun h => ?_) (fun h => ?_)
      · have hi : i < ls.length := by simp at h; omega
        have hj : i < ms.length := by omega
        obtain ⟨b1, k1, g1, r1⟩ := h1.row i hi
        obtain ⟨b2, k2, g2, r2⟩ := h2.row i hj
        have q1 := hl1 _ (List.getElem_mem hi)
        have q2 := hl2 _ (List.getElem_mem hj)
        have v1 := h1.len
        have v2 := h2.len
        refine tc_skip ?_; refine q_then_n ?_; refine tc_seq ?_; refine tc_block ?_; refine tc_seq ?_; refine tc_regq mo (by kernel_rfl) ?_; refine ql_v rfl (o_move (by conv => lhs; whnf)) ?_; refine ql_v rfl (o_move (by conv => lhs; whnf)) ?_; refine ql_v rfl (o_ixP1 Tryz.underlying88 sz32 rfl rfl (by omega) (nn_rs h1.rd (fun _ => by omega))) ?_; refine ql_v rfl (o_ldP p32 rfl h1.rd g1) ?_; refine ql_v rfl (o_move (by conv => lhs; whnf)) ?_; refine ql_v rfl (o_move (by conv => lhs; whnf)) ?_; refine ql_v rfl (o_ixP1 Tryz.underlying88 sz32 rfl rfl (by omega) (nn_rs h2.rd (fun _ => by omega))) ?_; refine ql_v rfl (o_ldP p32 rfl h2.rd g2) ?_; refine ql_c rfl (fun w => exec_call bd53 rfl) (EqBytes_c (xs := ls[i]) (ys := ms[i]) (h1 := r1) (h2 := r2)) ?_; refine ql_v rfl (o_not rfl) ?_; refine ql_nil ?_; refine q_then_n ?_; refine tc_cond rfl (fun h => ?_) (fun h => ?_)
        · try simp only [lv1, lv2, lv3, lv4, lv5, lv6, Bool.not_true, Bool.not_false] at h
          refine sr ?_; refine tla ?_; refine nq ?_; refine tc_ret ?_; refine q_block_r (q_then_r (q_then_r (q_block_r (q_then_r ?_)))); refine ⟨.bool false, _, res1 rfl rfl, ?_, (by rw [decide_eq_false]; intro e; subst e; simp at h), rfl⟩; exact Dr.sat (by repeat (first | with_reducible exact dr_refl | apply dr_keep | apply dr_drop))
        · have heq : ls[i] = ms[i] := by simpa using h
          refine tc_skip ?_; refine q_block_n (q_then_n ?_); refine tc_reg ?_; refine tlm ?_; refine tv (by first | exact o_addI rfl rfl (by omega) | exact o_add rfl rfl) ?_; refine tla ?_; refine nq ?_; exact ⟨_, by omega, i + 1, by omega, by rw [List.take_succ_eq_append_getElem hi, List.take_succ_eq_append_getElem hj, hp1, heq], rfl, rfl, rfl, rfl, rfl⟩
      · try simp only [lv1, lv2, lv3, lv4, lv5, lv6, Bool.not_true, Bool.not_false] at h
        refine tc_exit ?_; refine q_then_e (q_then_e (q_block_x (q_then_n ?_))); refine sr ?_; refine tla ?_; refine nq ?_; refine tc_ret ?_; refine ⟨.bool true, _, res1 rfl rfl, ?_, (by rw [decide_eq_true]; have e : i = n := (by simp at h; omega); rw [List.take_of_length_le (by omega), List.take_of_length_le (by omega)] at hp1; exact hp1), rfl⟩; exact Dr.sat (by repeat (first | with_reducible exact dr_refl | apply dr_keep | apply dr_drop))
theorem Contents_any {A R : SP} {C : SP → SP} {d : Nat} {s : DevS} (hc : Ct A (Dev d s) R C := by repeat (first | with_reducible exact ct_here | apply ct_left)) {q : Nat} (hq : q ≤ 4611686018427387904 := by omega) : Fn Tryz.prog 57 #[.pointer (some ⟨d, 0, none⟩), .int .i64 (q : Nat)] A (fun r B => ∃ a c vs, r = .slice a (ctS q s).length c ∧ (ctS q s).length ≤ c ∧ B = A * Parts vs (ctS q s) * Sl 1 (.slice a (ctS q s).length c) (ctS q s).length vs) := by
  by_cases h : q < s.ls.length
  · exact Contents_c hc h
  · have e : ctS q s = [] := ctS_out h
    intro g w hs
    refine ((fun hc h => ContentsNo_c hc (hp := by omega) (hno := h)) hc (by omega) g w hs).mono ?_; rintro x w' ⟨v, B, rfl, ⟨rfl, rfl⟩, hB⟩; refine ⟨_, A * Parts [] [] * Sl 1 (.slice none 0 0) 0 [], rfl, ⟨none, 0, [], by rw [e]; rfl, by rw [e]; exact Nat.le_refl _, by rw [e]; rfl⟩, ?_⟩
    rw [parts_nil, star_emp]; exact sl_nil hB
theorem rContents_any {A R : SP} {C : SP → SP} {d : Nat} {s : DevS} (hc : Ct A (RDev d s) R C := by repeat (first | with_reducible exact ct_here | apply ct_left)) {q : Nat} (hq : q ≤ 4611686018427387904 := by omega) : Fn Tryz.prog 58 #[.pointer (some ⟨d, 0, none⟩), .int .i64 (q : Nat)] A (fun r B => ∃ a c vs, r = .slice a (ctS q s).length c ∧ (ctS q s).length ≤ c ∧ B = A * Parts vs (ctS q s) * Sl 1 (.slice a (ctS q s).length c) (ctS q s).length vs) := by
  by_cases h : q < s.ls.length
  · exact rContents_c hc h
  · have e : ctS q s = [] := ctS_out h
    intro g w hs
    refine ((fun hc h => rContentsNo_c hc (hno := h)) hc (by omega) g w hs).mono ?_; rintro x w' ⟨v, B, rfl, ⟨rfl, rfl⟩, hB⟩; refine ⟨_, A * Parts [] [] * Sl 1 (.slice none 0 0) 0 [], rfl, ⟨none, 0, [], by rw [e]; rfl, by rw [e]; exact Nat.le_refl _, by rw [e]; rfl⟩, ?_⟩
    rw [parts_nil, star_emp]; exact sl_nil hB
end Go.Vl

set_option linter.unusedVariables false
set_option linter.unusedSimpArgs false
namespace Go.Vl
open Go Go.Proofs
theorem ctS_rows {s : DevS} (hw : WfD s) (q : Nat) : (ctS q s).length ≤ 2199023255552 ∧ ∀ l ∈ ctS q s, l.length = 64 := by
  by_cases h : q < s.ls.length
  · rw [ctS_at h, List.length_map]
    have hl := hw.line _ (List.getElem_mem h)
    exact ⟨hl.small, fun l hm => by obtain ⟨x, hx, rfl⟩ := List.mem_map.1 hm; exact lb_len (hl.eight _ hx)⟩
  · have e : ctS q s = [] := ctS_out h
    rw [e]; exact ⟨by simp, fun l h => by simp at h⟩
/-- What Format answers of any device, and the device behind it. -/
def fmX (s : DevS) : (List Int × Int) × DevS := if 578 ≤ s.ls.length then (((fmA (s.ls.length * 64) s).1, (fmtF (fst4 (s.ls.length * 64)) s).1), (fmtF (fst4 (s.ls.length * 64)) s).2) else (([0, 0, 0, 0, 0], 80), s)
attribute [local irreducible] crk crL crc Sl pt ro mbs sbB planT Dev RDev imgS lineT fromS Parts
end Go.Vl

set_option linter.unusedVariables false
set_option linter.unusedSimpArgs false
namespace Go.Vl
open Go Go.Proofs
theorem room_goesK {r : Nat} {keep : List Int} {s : DevS} (hw : WfD s) (h : Room r s) : Room r (goesS keep s) := fun l hl => by
  have h0 := h _ (List.getElem_mem hw.pos)
  have h1 := List.length_pos_iff.2 (hw.line _ (List.getElem_mem hw.pos)).ne
  simp only [goesS, goPart] at hl
  obtain ⟨j, hj, rfl⟩ := List.mem_iff_getElem.1 hl
  simp only [List.getElem_mapIdx]
  simp only [List.length_mapIdx] at hj
  rw [if_pos hj]; simp [goL]; omega
theorem st8_room {r v : Nat} {p e : Int} {s s2 : DevS} (h : st8 p v s = (e, s2)) (hw : WfD s) (hv : v < 18446744073709551616) (hr : Room (r + 1) s) : Room r s2 := by
  have h0 : Room r s := room_le hr (by omega)
  unfold st8 at h
  split at h
  · rw [← (Prod.mk.inj h).2]; exact h0
  · split at h
    · rw [← (Prod.mk.inj h).2]; exact h0
    · rw [← (Prod.mk.inj h).2]
      exact done_room (layS_wf hw (room_le hr (by omega)) hv) (onLine_room hr fun l => by simp [layL])
theorem sto_room {r : Nat} {p e : Int} {b : List Nat} {s s2 : DevS} (h : sto p b s = (e, s2)) (hw : WfD s) (hb : ∀ x ∈ b, x < 256) (hr : Room (r + b.length) s) : Room r s2 := by
  have h0 : Room r s := room_le hr (by omega)
  have h2 : (sto p b s).2 = s2 := by rw [h]
  rw [← h2]
  unfold sto
  split
  · exact h0
  · exact (storeF_room b.length rfl hw hb hr).1
theorem flushS_room {r p : Nat} {s : DevS} (h : Room r s) : Room r (flushS p s) := fun l hl => by
  unfold flushS onLine at hl
  split at hl
  · rcases List.mem_or_eq_of_mem_set hl with h1 | h1
    · exact h l h1
    · rw [h1]
      rename_i l0 e
      exact h l0 (List.mem_of_getElem? e)
  · exact h l hl
theorem fl1_room {r : Nat} {p e : Int} {s s2 : DevS} (h : fl1 p s = (e, s2)) (hw : WfD s) (hr : Room r s) : Room r s2 := by
  unfold fl1 at h
  split at h
  · rw [← (Prod.mk.inj h).2]; exact hr
  · rw [← (Prod.mk.inj h).2]; exact done_room (flushS_wf hw) (flushS_room hr)
theorem fe_room {r : Nat} {e : Int} {s s2 : DevS} (h : fe s = (e, s2)) (hw : WfD s) (hr : Room r s) : Room r s2 := by
  unfold fe at h
  split at h
  · rw [← (Prod.mk.inj h).2]; exact hr
  · rw [← (Prod.mk.inj h).2]
    refine done_room (fence_wf hw) fun l hl => ?_
    simp only [fenceS, List.mem_map] at hl
    obtain ⟨l0, h0, rfl⟩ := hl
    have h3 : (fenceL l0).st.length ≤ l0.st.length := by unfold fenceL; split <;> simp
    have := hr l0 h0
    omega
theorem armS_room {r : Nat} {e : Int} {ars : List (Int × List Int)} {s s2 : DevS} (h : armS ars s = (e, s2)) (hr : Room r s) : Room r s2 := by
  unfold armS at h
  split at h
  · rw [← (Prod.mk.inj h).2]; exact hr
  · split at h
    · rw [← (Prod.mk.inj h).2]; exact hr
    · split at h
      · rw [← (Prod.mk.inj h).2]; exact hr
      · rw [← (Prod.mk.inj h).2]; exact hr
theorem crS_room {r : Nat} {e : Int} {kp : List Int} {s s2 : DevS} (h : crS kp s = (e, s2)) (hw : WfD s) (hr : Room r s) : Room r s2 := by
  unfold crS at h
  split at h
  · rw [← (Prod.mk.inj h).2]; exact hr
  · split at h
    · rw [← (Prod.mk.inj h).2]; exact hr
    · rw [← (Prod.mk.inj h).2]; exact room_goesK hw hr
/-- The contents of a line, by any number. -/
def ctI (p : Int) (s : DevS) : List (List Nat) := if p < 0 then [] else ctS p.toNat s
/-- What Load tells. -/
def ldB (p m : Int) (s : DevS) : List Nat := if rdy s.ls.length s.off p m = 0 then ((imgS s).drop p.toNat).take m.toNat else []
theorem rct_wf2 {A R : SP} {C : SP → SP} {r : Nat} {s : DevS} (hc : Ct A (RDev r s) R C) {g : Gh} {w : World} (h : sat g w A) : WfD s := wfR_ct hc h
end Go.Vl

set_option linter.unusedVariables false
set_option linter.unusedSimpArgs false
namespace Go.Vl
open Go Go.Proofs
def xm (i : Nat) : Int := IntKind.u8.wrap (IntKind.i64.wrap ((BitVec.ofInt IntKind.i64.bits 165 ^^^ BitVec.ofInt IntKind.i64.bits (i : Int)).toNat))
/-- The marks behind a list of bytes. -/
def xmN (i : Nat) : Nat := (xm i).toNat
theorem xm_val (i : Nat) : Value.int .u8 (xm i) = .int .u8 ((xmN i : Nat) : Int) := by
  have h : 0 ≤ xm i := by unfold xm; simp [IntKind.wrap, IntKind.bits, IntKind.signed]; omega
  unfold xmN; rw [Int.toNat_of_nonneg h]
def spm (n : Nat) : List Nat := (List.range 80).map fun j => xmN (n + j)
theorem spm_len (n : Nat) : (spm n).length = 80 := by simp [spm]
def spi (n : Nat) : List Int := (List.range 9).map fun j => (7700 + ((n + j : Nat) : Int))
theorem spm_at {xs : List Nat} {i m : Nat} (hm : xs.length = m) (h : m ≤ i) (hi : i < (xs ++ spm m).length) : (xs ++ spm m)[i] = xmN i := by
  rw [List.getElem_append_right (by omega)]
  simp only [spm, List.getElem_map, List.getElem_range]; congr 1; omega
theorem spare_step {α : Type} {W : List α} {L i : Nat} {v z : α} (hL : W.length = L) (hi : i < W.length) (hv : W[i] = v) : (W.take i ++ List.replicate (L - i) z).set i v = W.take (i + 1) ++ List.replicate (L - (i + 1)) z := by
  rw [set_mid (by rw [List.length_take]; omega) (by omega), List.take_succ_eq_append_getElem hi, hv]
theorem rs_pre {A : SP} {a : Option Addr} {xs ys : List Nat} (h : Rs A a (bys (xs ++ ys))) : Rs A a (bys xs) := by
  have := h.sub xs.length
  rwa [bys_takeG, List.take_left] at this
attribute [local irreducible] Sl pt ro
theorem Spare_c {A : SP} {a : Option Addr} {c m : Nat} {xs : List Nat} (hr : Rs A a (bys xs) := by repeat (first | assumption | with_reducible exact rs_sl | with_reducible exact rs_pt0 | exact rs_none | apply Rs.left)) (hm : xs.length = m := by first | assumption | rfl) (hl : m ≤ 8796093022208 := by omega) :
    Fn Tryz.prog 80 #[.slice a m c] (A) (fun v B => ∃ a, v = .slice a m (m + 80) ∧ B = A * Sl 1 (.slice a (m + 80) (m + 80)) (m + 80) (bys (xs ++ spm m))) := by
  refine fn_enterW (args := [.slice a m c]) Tryz.func80 rfl Tryz.ntmps80 (by simp) ?_
  have hW : (xs ++ spm m).length = m + 80 := by rw [List.length_append, hm, spm_len]
  refine sr ?_; refine tla ?_; refine nq ?_; refine sr ?_; refine tlm ?_; refine tv (o_len Tryz.underlying32 rfl) ?_; refine tv (by first | exact o_addI rfl rfl (by omega) | exact o_add rfl rfl) ?_; refine tl_env (d := 7) (v := .int .i64 ((m + 80 : Nat) : Int)) (rfl) ?_; refine tl_x rfl (o_makeSlice (len := m + 80) (cap := m + 80) Tryz.underlying32 sz5 by5 z5 rfl rfl rfl (by omega) (by omega) (by omega)) ?_; rintro _ _ ⟨b8, rfl, rfl⟩
  rw [bys_rep]
  refine tl_pre (fun _ _ h => sl_new (k := 1) (n := m + 80) (cap := m + 80) (xs := bys (List.replicate (m + 80) 0)) h (Nat.le_refl _) (by rw [bys_length, List.length_replicate]; omega) (by rw [List.take_of_length_le (by rw [bys_length, List.length_replicate]; omega)])) ?_; refine tla ?_; refine nq ?_; refine tc_seq ?_; refine sr ?_; refine tla ?_; refine nq ?_; refine tc_block ?_; refine tc_loop (fun kk ρ BB => ∃ (i : Nat), (i ≤ m + 80) ∧ kk = m + 80 - i ∧ ρ 4 = .int .i64 (i : Nat) ∧ ρ 0 = .slice a m c ∧ ρ 3 = .slice (some ⟨b8, 0, none⟩) (m + 80) (m + 80) ∧ BB = A * Sl 1 (.slice (some ⟨b8, 0, none⟩) (m + 80) (m + 80)) (m + 80) (bys ((xs ++ spm m).take i ++ List.replicate (m + 80 - i) 0))) (m := m + 80 - (0)) ?_ ?_
  · exact ⟨0, by omega, rfl, rfl, rfl, rfl, rfl⟩
  · intro k ρ B hI
    obtain ⟨i, hp0, hkk1, hE4, hE0, hE3, rfl⟩ := hI
    refine tc_env (d := 4) hE4 ?_; refine tc_env (d := 0) hE0 ?_; refine tc_env (d := 3) hE3 ?_
    clear hE4 hE0 hE3
    refine tc_seq ?_; refine sr ?_; refine tlm ?_; refine tlm ?_; refine tv (o_len Tryz.underlying32 rfl) ?_; refine tv (o_lss rfl rfl) ?_; refine nq ?_; refine tc_cond rfl (fun h => ?_) (fun h => ?_)
    · have hi : i < (xs ++ spm m).length := by simp at h; omega
      refine tc_skip ?_; refine q_then_n ?_; refine tc_seq ?_; refine tc_block ?_; refine sr ?_; refine tlm ?_; refine tlm ?_; refine tv (o_len Tryz.underlying32 rfl) ?_; refine tv (o_lss rfl rfl) ?_; refine nq ?_; refine tc_cond rfl (fun h => ?_) (fun h => ?_)
      · have hlt : i < xs.length := by simp at h; omega
        have hv : (xs ++ spm m)[i] = xs[i] := List.getElem_append_left (by omega)
        refine tc_reg ?_; refine tlm ?_; refine tlm ?_; refine tlm ?_; refine tlm ?_; refine tv (o_ixP1 Tryz.underlying32 sz5 rfl rfl (by first | omega | (simp only [bys_length, ints_length, wds_length, bos_length, List.length_append, List.length_take, List.length_drop, List.length_singleton]; omega)) (by repeat (first | exact nn_some | with_reducible exact nn_sl (by decide) | exact nn_rs (by assumption) (fun _ => by first | omega | (simp only [bys_length, ints_length, wds_length, bos_length, List.length_append, List.length_take, List.length_drop, List.length_singleton]; omega)) | apply Nn.left))) ?_; refine tv (o_ldP p5 rfl (by repeat (first | assumption | with_reducible exact rs_sl | with_reducible exact rs_pt0 | exact rs_none | apply Rs.left)) (by first | assumption | exact bys_at (by omega) | exact ints_at (by omega) | exact wds_at (by omega) | exact bos_at (by omega) | rfl)) ?_; refine tv (o_ixP1 Tryz.underlying32 sz5 rfl rfl (by first | omega | (simp only [bys_length, ints_length, wds_length, bos_length, List.length_append, List.length_take, List.length_drop, List.length_singleton]; omega)) (by repeat (first | exact nn_some | with_reducible exact nn_sl (by decide) | exact nn_rs (by assumption) (fun _ => by first | omega | (simp only [bys_length, ints_length, wds_length, bos_length, List.length_append, List.length_take, List.length_drop, List.length_singleton]; omega)) | apply Nn.left))) ?_; refine tl_u rfl (o_stP sz5 rfl rfl rfl (by repeat (first | with_reducible exact ct_here | apply ct_left)) (by omega) (by first | exact bys_set _ _ _ | exact ints_set _ _ _ | exact wds_set' _ _ _ | exact bos_set _ _ _ | rfl)) ?_
        refine tl_nil ?_; refine q_block_n (q_then_n ?_); refine tc_reg ?_; refine tlm ?_; refine tv (by first | exact o_addI rfl rfl (by omega) | exact o_add rfl rfl) ?_; refine tla ?_; refine nq ?_; exact ⟨_, by omega, i + 1, by omega, rfl, rfl, rfl, rfl, by rw [spare_step hW hi hv]⟩
      · have hv := spm_at hm (show m ≤ i by simp at h; omega) hi
        refine tc_reg ?_; refine tlm ?_; refine tlm ?_; refine tlm ?_; refine tv (o_xor rfl rfl) ?_; refine tv (by first | exact o_conv8 Tryz.underlying3 Tryz.underlying5 rfl | exact o_conv Tryz.underlying3 Tryz.underlying5 rfl) ?_; refine tl_env (d := 30) (v := .int .u8 ((xmN i : Nat) : Int)) (xm_val i) ?_; refine tv (o_ixP1 Tryz.underlying32 sz5 rfl rfl (by first | omega | (simp only [bys_length, ints_length, wds_length, bos_length, List.length_append, List.length_take, List.length_drop, List.length_singleton]; omega)) (by repeat (first | exact nn_some | with_reducible exact nn_sl (by decide) | exact nn_rs (by assumption) (fun _ => by first | omega | (simp only [bys_length, ints_length, wds_length, bos_length, List.length_append, List.length_take, List.length_drop, List.length_singleton]; omega)) | apply Nn.left))) ?_; refine tl_u rfl (o_stP sz5 rfl rfl rfl (by repeat (first | with_reducible exact ct_here | apply ct_left)) (by omega) (by first | exact bys_set _ _ _ | exact ints_set _ _ _ | exact wds_set' _ _ _ | exact bos_set _ _ _ | rfl)) ?_; refine tl_nil ?_; refine q_block_n (q_then_n ?_); refine tc_reg ?_; refine tlm ?_; refine tv (by first | exact o_addI rfl rfl (by omega) | exact o_add rfl rfl) ?_; refine tla ?_; refine nq ?_; exact ⟨_, by omega, i + 1, by omega, rfl, rfl, rfl, rfl, by rw [spare_step hW hi hv]⟩
    · obtain rfl : i = m + 80 := by simp at h; omega
      rw [List.take_of_length_le (by omega), Nat.sub_self, List.replicate_zero, List.append_nil]
      refine tc_exit ?_; refine q_then_e (q_then_e (q_block_x (q_then_n ?_))); refine sr ?_; refine tlm ?_; refine tlm ?_; refine tv (o_len Tryz.underlying32 rfl) ?_; refine tv (o_slice (l := 0) (h := m) Tryz.underlying32 sz5 rfl bnd_none (bnd_nat rfl) (by omega) (by omega)) ?_; refine tl_env (d := 35) (v := .slice (some ⟨b8, 0, none⟩) m (m + 80)) (by show Value.slice (cutAddr _ _ 0 1) (m - 0) (m + 80 - 0) = _; rw [cut_none]; rfl) ?_; refine tla ?_; refine nq ?_; refine tc_ret ?_; exact ⟨.slice (some ⟨b8, 0, none⟩) m (m + 80), _, res1 rfl rfl, fun _ _ h => h, some ⟨b8, 0, none⟩, rfl, rfl⟩
theorem Kept_c {A : SP} {a a2 : Option Addr} {c2 m : Nat} {xs : List Nat} (hr : Rs A a (bys (xs ++ spm m)) := by repeat (first | assumption | with_reducible exact rs_sl | with_reducible exact rs_pt0 | exact rs_none | apply Rs.left)) (hr2 : Rs A a2 (bys xs) := by repeat (first | assumption | with_reducible exact rs_sl | with_reducible exact rs_pt0 | exact rs_none | apply Rs.left)) (hm : xs.length = m := by first | assumption | rfl) (hl : m ≤ 8796093022208 := by omega) :
    Fn Tryz.prog 82 #[.slice a m (m + 80), .slice a2 m c2] (A) (fun v B => v = .bool true ∧ A = B) := by
  refine fn_enterW (args := [.slice a m (m + 80), .slice a2 m c2]) Tryz.func82 rfl Tryz.ntmps82 (by simp) ?_
  have hW : (xs ++ spm m).length = m + 80 := by rw [List.length_append, hm, spm_len]
  refine sr ?_; refine tla ?_; refine nq ?_; refine tc_seq ?_; refine sr ?_; refine tlm ?_; refine tlm ?_; refine tl_c rfl (o_call bd53 rfl (EqBytes_c (xs := xs) (ys := xs) (h1 := rs_pre hr))) ?_; rintro _ _ ⟨rfl, rfl⟩; refine tl_env (d := 9) (v := .bool true) (congrArg Value.bool (decide_eq_true rfl)) ?_; refine tv (o_not rfl) ?_; refine nq ?_; refine tc_cond rfl (fun h => ?_) (fun h => ?_)
  · exfalso; simp at h
  · try simp only [lv1, lv2, lv3, lv4, lv5, lv6, Bool.not_true, Bool.not_false] at h
    refine tc_skip ?_; refine q_then_n ?_; refine sr ?_; refine tlm ?_; refine tlm ?_; refine tv (o_len Tryz.underlying32 rfl) ?_; refine tv (by first | exact o_addI rfl rfl (by omega) | exact o_add rfl rfl) ?_; refine tl_env (d := 14) (v := .int .i64 ((m + 80 : Nat) : Int)) (rfl) ?_; refine tv (o_slice (l := 0) (h := m + 80) Tryz.underlying32 sz5 rfl bnd_none (bnd_nat rfl) (by omega) (by omega)) ?_; refine tl_env (d := 15) (v := .slice a (m + 80) (m + 80)) (by show Value.slice (cutAddr _ _ 0 1) (m + 80 - 0) (m + 80 - 0) = _; rw [cut_none]; rfl) ?_; refine tla ?_; refine nq ?_; refine tc_seq ?_; refine sr ?_; refine tlm ?_; refine tv (o_len Tryz.underlying32 rfl) ?_; refine tla ?_; refine nq ?_; refine tc_block ?_; refine tc_loop (fun kk ρ BB => ∃ (i : Nat), (m ≤ i) ∧ (i ≤ m + 80) ∧ kk = m + 80 - i ∧ ρ 6 = .int .i64 (i : Nat) ∧ ρ 5 = .slice a (m + 80) (m + 80) ∧ BB = A) (m := m + 80 - (m)) ?_ ?_
    · exact ⟨m, by omega, by omega, rfl, rfl, rfl, rfl⟩
    · intro k ρ B hI
      obtain ⟨i, hp0, hp1, hkk1, hE6, hE5, hBA⟩ := hI
      obtain rfl := hBA.symm
      refine tc_env (d := 6) hE6 ?_; refine tc_env (d := 5) hE5 ?_
      clear hE6 hE5
      refine tc_seq ?_; refine sr ?_; refine tlm ?_; refine tlm ?_; refine tv (o_len Tryz.underlying32 rfl) ?_; refine tv (o_lss rfl rfl) ?_; refine nq ?_; refine tc_cond rfl (fun h => ?_) (fun h => ?_)
      · have hi : i < (xs ++ spm m).length := by simp at h; omega
        have hv := spm_at hm hp0 hi
        refine tc_skip ?_; refine q_then_n ?_; refine tc_seq ?_; refine tc_block ?_; refine sr ?_; refine tlm ?_; refine tlm ?_; refine tv (o_ixP1 Tryz.underlying32 sz5 rfl rfl (by omega) (nn_rs hr (fun _ => by rw [bys_length]; omega))) ?_; refine tv (o_ldP p5 rfl hr (bys_at hi)) ?_; refine tl_env (d := 27) (v := .int .u8 ((xmN i : Nat) : Int)) (congrArg (fun z : Nat => Value.int .u8 (z : Int)) hv) ?_; refine tlm ?_; refine tv (o_xor rfl rfl) ?_; refine tv (by first | exact o_conv8 Tryz.underlying3 Tryz.underlying5 rfl | exact o_conv Tryz.underlying3 Tryz.underlying5 rfl) ?_; refine tl_env (d := 30) (v := .int .u8 ((xmN i : Nat) : Int)) (xm_val i) ?_; refine tv (o_nei rfl rfl) ?_; refine nq ?_; refine tc_cond rfl (fun h => ?_) (fun h => ?_)
        · exfalso; simp at h
        · try simp only [lv1, lv2, lv3, lv4, lv5, lv6, Bool.not_true, Bool.not_false] at h
          refine tc_skip ?_; refine q_block_n (q_then_n ?_); refine tc_reg ?_; refine tlm ?_; refine tv (by first | exact o_addI rfl rfl (by omega) | exact o_add rfl rfl) ?_; refine tla ?_; refine nq ?_; exact ⟨_, by omega, i + 1, by omega, by omega, rfl, rfl, rfl, rfl⟩
      · try simp only [lv1, lv2, lv3, lv4, lv5, lv6, Bool.not_true, Bool.not_false] at h
        refine tc_exit ?_; refine q_then_e (q_then_e (q_block_x (q_then_n ?_))); refine sr ?_; refine tla ?_; refine nq ?_; refine tc_ret ?_; refine ⟨_, _, res1 rfl rfl, ?_, rfl, rfl⟩; exact Dr.sat (by repeat (first | with_reducible exact dr_refl | apply dr_keep | apply dr_drop))
end Go.Vl

set_option linter.unusedVariables false
set_option linter.unusedSimpArgs false
namespace Go.Vl
open Go Go.Proofs
theorem rangeP_room {r : Nat} {p m e : Int} {s s2 : DevS} (h : rangeP p m s = (e, s2)) (hw : WfD s) (hr : Room r s) : Room r s2 := by
  have h2 : (rangeP p m s).2 = s2 := by rw [h]
  rw [← h2]
  unfold rangeP
  split
  · exact hr
  · split
    · exact hr
    · split
      · exact hr
      · exact (flF_room _ _ _ hw hr).1
theorem st8_wf {v : Nat} {p e : Int} {s s2 : DevS} (h : st8 p v s = (e, s2)) (hw : WfD s) (hv : v < 18446744073709551616) (hr : Room 1 s) : WfD s2 := by
  unfold st8 at h
  split at h
  · rw [← (Prod.mk.inj h).2]; exact hw
  · split at h
    · rw [← (Prod.mk.inj h).2]; exact hw
    · rw [← (Prod.mk.inj h).2]; exact doneS_wf (layS_wf hw hr hv)
theorem pubP_room {r v : Nat} {p e : Int} {s s2 : DevS} (h : pubP p v s = (e, s2)) (hw : WfD s) (hv : v < 18446744073709551616) (hr : Room (r + 1) s) : Room r s2 := by
  have h2 : (pubP p v s).2 = s2 := by rw [h]
  rw [← h2]
  have h3 := st8_room (e := (st8 p v s).1) (s2 := (st8 p v s).2) rfl hw hv hr
  unfold pubP
  split
  · exact h3
  · exact (flF_room _ _ _ (st8_wf (e := (st8 p v s).1) rfl hw hv (room_le hr (by omega))) h3).1
theorem bytesP_rm {r : Nat} {p e : Int} {u : List Nat} {s s2 : DevS} (h : bytesP p u s = (e, s2)) (hw : WfD s) (hb : ∀ x ∈ u, x < 256) (hr : Room (r + u.length) s) : Room r s2 := by
  have h2 : (bytesP p u s).2 = s2 := by rw [h]
  rw [← h2]; exact (bytesP_room hw hb hr).1
theorem fl1_q {q : Nat} {s : DevS} (hq : q + 8 ≤ s.ls.length * 64) : fl1 ((q / 64 * 64 : Nat) : Int) s = fl1 (q : Int) s := by
  have e1 : rdy s.ls.length s.off ((q / 64 * 64 : Nat) : Int) 1 = rdy s.ls.length s.off (q : Int) 1 := by
    unfold rdy
    split
    · rfl
    · rw [if_neg (by omega), if_neg (by omega)]
  unfold fl1 flushS
  rw [e1, Int.toNat_natCast, Int.toNat_natCast, show q / 64 * 64 / 64 = q / 64 by omega]
theorem last8 {q : Nat} {s : DevS} (h8 : q % 8 = 0) (hq : q + 8 ≤ s.ls.length * 64) : lastS q 8 s = if (fl1 (q : Int) s).1 ≠ 0 then fl1 (q : Int) s else fe (fl1 (q : Int) s).2 := by
  unfold lastS
  rw [show (q + 8 - 1) / 64 - q / 64 + 1 = 0 + 1 by omega]
  show (if _ then _ else _) = _
  rw [fl1_q hq]; rfl
theorem st8_w {p : Int} {v : Nat} {s : DevS} (ho : s.off = false) (h : (decide (p % 8 = 0) && decide (rdy s.ls.length false p 8 = 0)) = false) : st8 p v s = (6, s) := by
  simp only [Bool.and_eq_false_iff, decide_eq_false_iff_not] at h
  unfold st8
  rw [ho]
  split
  · rename_i hz; unfold rdy at hz ⊢; simp at hz ⊢; exact hz
  · rename_i hz
    have hz : rdy s.ls.length false p 8 = 0 := by simpa using hz
    rw [if_pos (by rcases h with h | h; exact h; exact absurd hz h)]
theorem le_mod : ∀ (n v : Nat), le n (v % 256 ^ n) = le n v
  | 0, _ => rfl
  | n + 1, v => by
    show _ :: le n _ = _ :: le n _
    rw [Nat.pow_succ, Nat.mul_comm, Nat.mod_mul_right_div_self, Nat.mod_mul_right_mod, le_mod n]
theorem loadP_lt {p : Int} {n : Nat} {s : DevS} : (loadP p n s).1 < 256 ^ n := by
  unfold loadP
  split
  · exact Nat.pow_pos (by decide)
  · refine Nat.lt_of_lt_of_le (nm_lt _ img_sub) (Nat.pow_le_pow_right (by decide) ?_)
    rw [List.length_take]; omega
/-- How wide. -/
def wd (n : Int) : Nat := 2 ^ wi n 4
theorem wd_le (n : Int) : wd n ≤ 8 ∧ 1 ≤ wd n := by
  have := wi_lt (p := n) (n := 4) (by decide)
  unfold wd
  match wi n 4, this with
  | 0, _ => decide
  | 1, _ => decide
  | 2, _ => decide
  | 3, _ => decide
theorem shl_wd (n : Int) : IntKind.i64.wrap (1 * 2 ^ (min ((wi n 4 : Nat) : Int).toNat IntKind.i64.bits)) = ((wd n : Nat) : Int) := by
  have := wi_lt (p := n) (n := 4) (by decide)
  unfold wd
  match wi n 4, this with
  | 0, _ => decide
  | 1, _ => decide
  | 2, _ => decide
  | 3, _ => decide
attribute [local irreducible] Sl pt ro Dev RDev imgS Parts
theorem rRange_c {A R : SP} {C : SP → SP} {r : Nat} {s : DevS} (hc : Ct A (RDev r s) R C := by repeat (first | with_reducible exact ct_here | apply ct_left)) {p m : Int} (hp : -9223372036854775808 ≤ p ∧ p ≤ 9223372036854775807 := by omega) (hm : -9223372036854775808 ≤ m ∧ m ≤ 9223372036854775807 := by omega) :
    Fn Tryz.prog 24 #[.pointer (some ⟨r, 0, none⟩), .int .i64 p, .int .i64 m] (A) (fun v_ B => ∃ e s2, rangeP p m s = (e, s2) ∧ v_ = .int .i64 e ∧ B = C (RDev r s2)) := by
  refine fn_enterW (args := [.pointer (some ⟨r, 0, none⟩), .int .i64 p, .int .i64 m]) Tryz.func24 rfl Tryz.ntmps24 (by simp) ?_
  obtain ⟨rfl, hC⟩ := hc
  refine tc_rdev fun hw lv rls av kvs hmap hkv => ?_
  have hpos := hw.pos
  have htop := hw.top
  
  refine sr ?_; refine tla ?_; refine nq ?_; refine tc_seq ?_; refine sr ?_; refine tlm ?_; refine tv (o_eqp Tryz.underlying28 rfl rfl) ?_; refine nq ?_; refine tc_cond rfl (fun h => ?_) (fun h => ?_)
  · (exfalso; first | (revert h; simp; done) | (simp at h; done) | (revert h; simp; omega) | (simp at h; omega) | omega)
  · try simp only [lv1, lv2, lv3, lv4, lv5, lv6, Bool.not_true, Bool.not_false] at h
    refine tc_skip ?_; refine q_then_n ?_; refine tc_seq ?_; refine sr ?_; refine tlm ?_; refine tv (o_nilCheck rfl) ?_; refine tv (o_fieldAddr (o := 5) Tryz.underlying114 rfl rfl sz4 rfl) ?_; refine tv (o_load p4 rfl (by repeat (first | exact rdevC_r | apply has_left)) rfl) ?_; refine nq ?_; refine tc_cond rfl (fun h => ?_) (fun h => ?_)
    · try simp only [lv1, lv2, lv3, lv4, lv5, lv6, Bool.not_true, Bool.not_false] at h
      refine sr ?_; refine tla ?_; refine nq ?_; refine tc_ret ?_; refine q_then_r ?_; exact ⟨.int .i64 5, C (RDev r s), res1 rfl rfl, fun _ _ h => by rw [hC]; exact rdev_back hw hmap hkv _ _ h, 5, s, by unfold rangeP; rw [if_pos h], rfl, rfl⟩
    · have ho : s.off = false := by simpa using h
      refine tc_skip ?_; refine q_then_n ?_; refine tc_seq ?_; refine sr ?_; refine tlm ?_; refine tv (o_lss rfl rfl) ?_; refine nq ?_; refine tc_cond rfl (fun h => ?_) (fun h => ?_)
      · have hm1 : m < 1 := by simp at h; omega
        refine sr ?_; refine tla ?_; refine nq ?_; refine tc_ret ?_; refine q_then_r ?_; exact ⟨.int .i64 0, C (RDev r s), res1 rfl rfl, fun _ _ h => by rw [hC]; exact rdev_back hw hmap hkv _ _ h, 0, s, by unfold rangeP; rw [if_neg (by rw [ho]; decide), if_pos (by omega)], rfl, rfl⟩
      · have hm1 : ¬ m < 1 := by simp at h; omega
        refine tc_pre (rdev_back hw hmap hkv) ?_; refine tc_skip ?_; refine q_then_n ?_; refine tc_seq ?_; refine sr ?_; refine tlm ?_; refine tlm ?_; refine tlm ?_; refine tl_c rfl (o_call bd78 rfl (rin9_c (s := s))) ?_; rintro _ _ ⟨rfl, rfl⟩; refine tv (o_not rfl) ?_; refine nq ?_; refine tc_cond rfl (fun h => ?_) (fun h => ?_)
        · have hz : rdy s.ls.length false p m ≠ 0 := by simpa using h
          refine sr ?_; refine tla ?_; refine nq ?_; refine tc_ret ?_; refine q_then_r ?_; exact ⟨.int .i64 6, C (RDev r s), res1 rfl rfl, fun _ _ h => by rw [hC]; exact h, 6, s, by unfold rangeP; rw [if_neg (by rw [ho]; decide), if_neg (by omega), if_pos hz], rfl, rfl⟩
        · have hz : rdy s.ls.length false p m = 0 := by simpa using h
          have hrd := rdy0 hz
          obtain ⟨q, rfl⟩ := Int.eq_ofNat_of_zero_le hrd.2.1
          obtain ⟨k, rfl⟩ := Int.eq_ofNat_of_zero_le hrd.2.2.1
          refine tc_skip ?_; refine q_then_n ?_; refine sr ?_; refine tlm ?_; refine tlm ?_; refine tlm ?_; refine tl_c rfl (o_call bd79 rfl (rlast_c (s := s) (p := q) (m := k))) ?_; rintro _ _ ⟨e23, s23, hs23, rfl, rfl⟩; refine tla ?_; refine nq ?_; refine tc_ret ?_; exact ⟨.int .i64 e23, C (RDev r s23), res1 rfl rfl, fun _ _ h => by rw [hC]; exact h, e23, s23, by unfold rangeP; rw [if_neg (by rw [ho]; decide), if_neg (by omega), if_neg (by simpa using hz)]; exact hs23, rfl, rfl⟩
theorem rword9_c {A R : SP} {C : SP → SP} {r : Nat} {s : DevS} (hc : Ct A (RDev r s) R C := by repeat (first | with_reducible exact ct_here | apply ct_left)) {p : Int} (hp : -9223372036854775808 ≤ p ∧ p ≤ 9223372036854775807 := by omega) :
    Fn Tryz.prog 84 #[.pointer (some ⟨r, 0, none⟩), .int .i64 p] (A) (fun v_ B => v_ = .bool (decide (p % 8 = 0) && decide (rdy s.ls.length false p 8 = 0)) ∧ A = B) := by
  refine fn_enterW (args := [.pointer (some ⟨r, 0, none⟩), .int .i64 p]) Tryz.func84 rfl Tryz.ntmps84 (by simp) ?_; refine sr ?_; refine tla ?_; refine nq ?_; refine sr ?_; refine tlm ?_; refine tv (o_rem (b := 8) rfl rfl (by decide)) ?_; refine tv (o_eqi rfl rfl) ?_; refine tlm ?_; refine tl_bool (d := 8) rfl (fun h => ?_) (fun h => ?_)
  · have hmod : p % 8 = 0 := tmod8.1 (by simpa using h)
    refine tlm ?_; refine tlm ?_; refine tl_c rfl (o_call bd78 rfl (rin9_c hc (m := 8))) ?_; rintro _ _ ⟨rfl, rfl⟩; refine tv (o_pick_t rfl (by conv => lhs; whnf)) ?_; refine tla ?_; refine nq ?_; refine tc_ret ?_; exact ⟨.bool (decide (rdy s.ls.length false p 8 = 0)), A, res1 rfl rfl, fun _ _ h => h, by rw [decide_eq_true hmod, Bool.true_and], rfl⟩
  · have hmod : p % 8 ≠ 0 := fun e => by simp at h; exact h (tmod8.2 e)
    refine tk ?_; refine tk ?_; refine tk ?_; refine tv (o_pick_f rfl (by conv => lhs; whnf)) ?_; refine tla ?_; refine nq ?_; refine tc_ret ?_; exact ⟨.bool false, A, res1 rfl rfl, fun _ _ h => h, by rw [decide_eq_false hmod, Bool.false_and], rfl⟩
theorem rPublish_c {A R : SP} {C : SP → SP} {r : Nat} {s : DevS} (hc : Ct A (RDev r s) R C := by repeat (first | with_reducible exact ct_here | apply ct_left)) {p : Int} {v : Nat} (hp : -9223372036854775808 ≤ p ∧ p ≤ 9223372036854775807 := by omega) (hv : v < 18446744073709551616 := by omega) (hroom : Room 1 s := by assumption) :
    Fn Tryz.prog 27 #[.pointer (some ⟨r, 0, none⟩), .int .i64 p, .int .u64 (v : Nat)] (A) (fun v_ B => ∃ e s2, pubP p v s = (e, s2) ∧ v_ = .int .i64 e ∧ B = C (RDev r s2)) := by
  refine fn_enterW (args := [.pointer (some ⟨r, 0, none⟩), .int .i64 p, .int .u64 (v : Nat)]) Tryz.func27 rfl Tryz.ntmps27 (by simp) ?_
  obtain ⟨rfl, hC⟩ := hc
  refine tc_rdev fun hw lv rls av kvs hmap hkv => ?_
  have hpos := hw.pos
  have htop := hw.top
  
  refine sr ?_; refine tla ?_; refine nq ?_; refine tc_seq ?_; refine sr ?_; refine tlm ?_; refine tv (o_eqp Tryz.underlying28 rfl rfl) ?_; refine nq ?_; refine tc_cond rfl (fun h => ?_) (fun h => ?_)
  · (exfalso; first | (revert h; simp; done) | (simp at h; done) | (revert h; simp; omega) | (simp at h; omega) | omega)
  · try simp only [lv1, lv2, lv3, lv4, lv5, lv6, Bool.not_true, Bool.not_false] at h
    refine tc_skip ?_; refine q_then_n ?_; refine tc_seq ?_; refine sr ?_; refine tlm ?_; refine tv (o_nilCheck rfl) ?_; refine tv (o_fieldAddr (o := 5) Tryz.underlying114 rfl rfl sz4 rfl) ?_; refine tv (o_load p4 rfl (by repeat (first | exact rdevC_r | apply has_left)) rfl) ?_; refine nq ?_; refine tc_cond rfl (fun h => ?_) (fun h => ?_)
    · try simp only [lv1, lv2, lv3, lv4, lv5, lv6, Bool.not_true, Bool.not_false] at h
      refine sr ?_; refine tla ?_; refine nq ?_; refine tc_ret ?_; refine q_then_r ?_; exact ⟨.int .i64 5, C (RDev r s), res1 rfl rfl, fun _ _ h => by rw [hC]; exact rdev_back hw hmap hkv _ _ h, 5, s, by unfold pubP st8 rdy; simp only [h, if_true]; rfl, rfl, rfl⟩
    · have ho : s.off = false := by simpa using h
      refine tc_pre (rdev_back hw hmap hkv) ?_; refine tc_skip ?_; refine q_then_n ?_; refine tc_seq ?_; refine sr ?_; refine tlm ?_; refine tlm ?_; refine tl_c rfl (o_call bd84 rfl (rword9_c (s := s) (p := p))) ?_; rintro _ _ ⟨rfl, rfl⟩; refine tv (o_not rfl) ?_; refine nq ?_; refine tc_cond rfl (fun h => ?_) (fun h => ?_)
      · have hz : st8 p v s = (6, s) := st8_w ho (by simpa only [Bool.not_eq_true'] using h)
        refine sr ?_; refine tla ?_; refine nq ?_; refine tc_ret ?_; refine q_then_r ?_; exact ⟨.int .i64 6, C (RDev r s), res1 rfl rfl, fun _ _ h => by rw [hC]; exact h, 6, s, by unfold pubP; rw [hz, if_pos (by show (6 : Int) ≠ 0; decide)], rfl, rfl⟩
      · simp only [Bool.not_eq_false', Bool.and_eq_true, decide_eq_true_eq] at h
        obtain ⟨hm8, hz⟩ := h
        have hrd := rdy0 hz
        obtain ⟨q, rfl⟩ := Int.eq_ofNat_of_zero_le hrd.2.1
        have hq8 : q % 8 = 0 := by omega
        refine tc_skip ?_; refine q_then_n ?_; refine sr ?_; refine tlm ?_; refine tlm ?_; refine tlm ?_; refine tl_c rfl (o_call bd85 rfl (rStore8_c (s := s) (p := q) (v := v))) ?_; rintro _ _ ⟨e21, s21, hs21, rfl, rfl⟩; refine tla ?_; refine nq ?_; refine tc_seq ?_; refine sr ?_; refine tlm ?_; refine tv (o_eqi rfl rfl) ?_; refine nq ?_; refine tc_cond rfl (fun h => ?_) (fun h => ?_)
        · obtain rfl : e21 = 0 := by simpa using h
          have hsl := st8_len q v s
          rw [hs21] at hsl
          simp only at hsl
          have hl8 := last8 (s := s21) hq8 (by omega)
          refine tc_reg ?_; refine tlm ?_; refine tlm ?_; refine tl_c rfl (o_call bd38 rfl (rFlush_c (s := s21) (p := q))) ?_; rintro _ _ ⟨e26, s26, hs26, rfl, rfl⟩; refine tla ?_; refine nq ?_; refine tc_seq ?_; refine sr ?_; refine tlm ?_; refine tv (o_eqi rfl rfl) ?_; refine nq ?_; refine tc_cond rfl (fun h => ?_) (fun h => ?_)
          · obtain rfl : e26 = 0 := by simpa using h
            refine tc_reg ?_; refine tlm ?_; refine tl_c rfl (o_call bd40 rfl (rFence_c (s := s26))) ?_; rintro _ _ ⟨e30, s30, hs30, rfl, rfl⟩; refine tla ?_; refine nq ?_; refine sr ?_; refine tlm ?_; refine tla ?_; refine nq ?_; refine tc_ret ?_; exact ⟨.int .i64 e30, C (RDev r s30), res1 rfl rfl, fun _ _ h => by rw [hC]; exact h, e30, s30, by unfold pubP; rw [hs21, if_neg (by simp), Int.toNat_natCast, hl8, hs26, if_neg (by simp)]; exact hs30, rfl, rfl⟩
          · try have hne : e26 ≠ 0 := by simpa using h
            refine tc_skip ?_; refine q_then_n ?_; refine sr ?_; refine tlm ?_; refine tla ?_; refine nq ?_; refine tc_ret ?_; exact ⟨.int .i64 e26, C (RDev r s26), res1 rfl rfl, fun _ _ h => by rw [hC]; exact h, e26, s26, by unfold pubP; rw [hs21, if_neg (by simp), Int.toNat_natCast, hl8, hs26, if_pos hne], rfl, rfl⟩
        · have hne : e21 ≠ 0 := by simpa using h
          refine tc_skip ?_; refine q_then_n ?_; refine tc_seq ?_; refine sr ?_; refine tlm ?_; refine tv (o_eqi rfl rfl) ?_; refine nq ?_; refine tc_cond rfl (fun h => ?_) (fun h => ?_)
          · exfalso; simp at h; omega
          · try have hne : e26 ≠ 0 := by simpa using h
            refine tc_skip ?_; refine q_then_n ?_; refine sr ?_; refine tlm ?_; refine tla ?_; refine nq ?_; refine tc_ret ?_; exact ⟨.int .i64 e21, C (RDev r s21), res1 rfl rfl, fun _ _ h => by rw [hC]; exact h, e21, s21, by unfold pubP; rw [hs21, if_pos hne], rfl, rfl⟩
theorem rPut_c {A R : SP} {C : SP → SP} {r : Nat} {s : DevS} (hc : Ct A (RDev r s) R C := by repeat (first | with_reducible exact ct_here | apply ct_left)) {p : Int} {v n : Nat} (hp : -9223372036854775808 ≤ p ∧ p ≤ 9223372036854775807 := by omega) (hv : v < 18446744073709551616 := by omega) (hn : n ≤ 8 := by omega) (hroom : rdy s.ls.length s.off p n = 0 → Room n s := by assumption) :
    Fn Tryz.prog 33 #[.pointer (some ⟨r, 0, none⟩), .int .i64 p, .int .u64 (v : Nat), .int .i64 (n : Nat)] (A) (fun v_ B => ∃ e s2, bytesP p (le n v) s = (e, s2) ∧ v_ = .int .i64 e ∧ B = C (RDev r s2)) := by
  refine fn_enterW (args := [.pointer (some ⟨r, 0, none⟩), .int .i64 p, .int .u64 (v : Nat), .int .i64 (n : Nat)]) Tryz.func33 rfl Tryz.ntmps33 (by simp) ?_
  obtain ⟨rfl, hC⟩ := hc
  refine sr ?_; refine tla ?_; refine nq ?_; refine sr ?_; refine tlm ?_; refine tlm ?_; refine tlm ?_; refine tlm ?_; refine tl_c rfl (o_call bd95 rfl (Little_c (v := v) (n := n) (hn := hn))) ?_; rintro _ _ ⟨a13, c13, rfl, hc13, rfl⟩; refine tl_c rfl (o_call bd81 rfl (rBytes_c (s := s) (p := p) (xs := le n v) (hr := rs_sl) (hm := le_length _ _) (hb := le_bytes _ _))) ?_; rintro _ _ ⟨e14, s14, hs14, rfl, rfl⟩; refine tla ?_; refine nq ?_; refine tc_ret ?_; exact ⟨.int .i64 e14, C (RDev r s14), res1 rfl rfl, fun _ _ h => by rw [hC]; exact (Dr.sat (A' := R * RDev r s14) (by repeat (first | with_reducible exact dr_refl | apply dr_keep | apply dr_drop))) _ _ h, e14, s14, hs14, rfl, rfl⟩
end Go.Vl

/- What the row rests on, part 3: a calculus of assertions, walks of functions over it, and plain laws. Conditions: none. -/
import Derived.Deep.QuietTactic
import Derived.BigQuiet
import Derived.WalkKit
import Derived.Test.YtndfopmdkcnkgaaProg
import Derived.OrdersHeld
import Derived.Laws.BytesArg
import Derived.RangeFuncRecord
import Derived.TacticsIn
import Derived.Deep.Slices
import Derived.OpenShut
import Derived.ChangeArms
import Derived.SizedLaws
import Derived.ChangeSame
import Derived.Test.YtndfopmdkcnkgaaRows
import Derived.Sort.QuietThIn
import Derived.Test.YtndfopmdkcnkgaaMg2
set_option linter.unusedVariables false
set_option linter.unusedSimpArgs false
namespace Go.Vl
open Go Go.Proofs
theorem star3 (S a b c : SP) : S * (a * b * c) = S * a * b * c := by rw [← star_assoc, ← star_assoc]
theorem star2' (S a b : SP) : S * (a * b) = S * a * b := (star_assoc _ _ _).symm
attribute [local irreducible] Sl pt ro Dev imgS
namespace Rg
theorem units1_f {at_ n l N b1 b2 b3 : Nat} {J : Nat → SP → Prop} {X : SP → Prop} {S0 : SP} (h1 : 1 ≤ n) (h2 : at_ + n ≤ 9223372036854775807) (hN : N = ((at_ + n - 1) / 8 - at_ / 8 + 1)) (h0 : J 0 S0) (hY : ∀ F i S, i < N → J i S → Yd Try.prog l #[.int .i64 ((at_ / 8 + i : Nat) : Int)] (F * S) (fun v B => ∃ (b : Bool) (S' : SP), v = .bool b ∧ (b = true → J (i + 1) S') ∧ (b = false → X S') ∧ B = F * S')) :
    Fn Try.prog 92 #[.func (.yield l) #[] #[], .pointer (some ⟨b1, 0, none⟩), .pointer (some ⟨b2, 0, none⟩), .pointer (some ⟨b3, 0, none⟩)] (S0 * pt b1 (cl [.int .i64 (at_ : Int)] 3) * pt b2 (cl [.int .i64 (n : Int)] 3) * pt b3 (cl [.int .i64 8] 3)) (fun r B => r = .tuple #[] ∧ ((∃ S, J N S ∧ B = S * pt b1 (cl [.int .i64 (at_ : Int)] 3) * pt b2 (cl [.int .i64 (n : Int)] 3) * pt b3 (cl [.int .i64 8] 3)) ∨ ∃ S, X S ∧ B = S * pt b1 (cl [.int .i64 (at_ : Int)] 3) * pt b2 (cl [.int .i64 (n : Int)] 3) * pt b3 (cl [.int .i64 8] 3))) := by
  refine fn_enterW (args := [.func (.yield l) #[] #[], .pointer (some ⟨b1, 0, none⟩), .pointer (some ⟨b2, 0, none⟩), .pointer (some ⟨b3, 0, none⟩)]) Try.func92 rfl Try.ntmps92 (by simp) ?_; refine tc_seq ?_; refine tc_seq ?_; refine tc_reg ?_; refine tl_v rfl (by first | exact o_load p3 rfl (by repeat (first | with_reducible exact has_here | with_reducible exact has_pt | apply has_left)) rfl | exact o_loadC p3 rfl (by assumption)) ?_; refine tl_v rfl (o_lss rfl rfl) ?_; refine tlm ?_; refine tl_bool (d := 8) rfl (fun h => ?_) (fun h => ?_)
  · (exfalso; first | (revert h; simp; done) | (simp at h; done) | (revert h; simp; omega) | (simp at h; omega) | omega)
  · try simp only [lv1, lv2, lv3, lv4, lv5, lv6, Bool.not_true, Bool.not_false] at h
    refine tl_v rfl (by first | exact o_load p3 rfl (by repeat (first | with_reducible exact has_here | with_reducible exact has_pt | apply has_left)) rfl | exact o_loadC p3 rfl (by assumption)) ?_; refine tl_v rfl (o_lss rfl rfl) ?_; refine tl_v rfl (o_pick_f rfl (by conv => lhs; whnf)) ?_; refine tlm ?_; refine tl_bool (d := 12) rfl (fun h => ?_) (fun h => ?_)
    · (exfalso; first | (revert h; simp; done) | (simp at h; done) | (revert h; simp; omega) | (simp at h; omega) | omega)
    · try simp only [lv1, lv2, lv3, lv4, lv5, lv6, Bool.not_true, Bool.not_false] at h
      refine tl_v rfl (by first | exact o_load p3 rfl (by repeat (first | with_reducible exact has_here | with_reducible exact has_pt | apply has_left)) rfl | exact o_loadC p3 rfl (by assumption)) ?_; refine tl_v rfl (by first | exact o_load p3 rfl (by repeat (first | with_reducible exact has_here | with_reducible exact has_pt | apply has_left)) rfl | exact o_loadC p3 rfl (by assumption)) ?_; refine tl_v rfl (by first | exact o_subI rfl rfl (by omega) | exact o_sub rfl rfl) ?_; refine tl_v rfl (o_gtr rfl rfl) ?_; refine tl_v rfl (o_pick_f rfl (by conv => lhs; whnf)) ?_; refine tl_nil ?_; refine q_then_n ?_; refine tc_cond rfl (fun h => ?_) (fun h => ?_)
      · (exfalso; first | (revert h; simp; done) | (simp at h; done) | (revert h; simp; omega) | (simp at h; omega) | omega)
      · try simp only [lv1, lv2, lv3, lv4, lv5, lv6, Bool.not_true, Bool.not_false] at h
        refine tc_skip ?_; refine q_then_n ?_; refine tc_seq ?_; refine tc_reg ?_; refine tl_v rfl (by first | exact o_load p3 rfl (by repeat (first | with_reducible exact has_here | with_reducible exact has_pt | apply has_left)) rfl | exact o_loadC p3 rfl (by assumption)) ?_; refine tl_v rfl (by first | exact o_load p3 rfl (by repeat (first | with_reducible exact has_here | with_reducible exact has_pt | apply has_left)) rfl | exact o_loadC p3 rfl (by assumption)) ?_; refine tl_v rfl (o_quoN (b := 8) rfl rfl (by omega)) ?_; refine tla ?_; refine tl_nil ?_; refine q_then_n ?_; refine tc_block ?_; refine tc_loop (fun kk ρ BB => ∃ (k : Nat) (S : SP), (k ≤ N) ∧ (J k S) ∧ kk = N - k ∧ ρ 5 = .int .i64 ((at_ / 8 + k : Nat) : Int) ∧ ρ 35 = undef ∧ ρ 0 = .func (.yield l) #[] #[] ∧ ρ 1 = .pointer (some ⟨b1, 0, none⟩) ∧ ρ 2 = .pointer (some ⟨b2, 0, none⟩) ∧ ρ 3 = .pointer (some ⟨b3, 0, none⟩) ∧ BB = S * pt b1 (cl [.int .i64 (at_ : Int)] 3) * pt b2 (cl [.int .i64 (n : Int)] 3) * pt b3 (cl [.int .i64 8] 3)) (m := N - (0)) ?_ ?_
        · exact ⟨0, S0, by omega, h0, rfl, rfl, rfl, rfl, rfl, rfl, rfl, rfl⟩
        · intro k ρ B hI
          obtain ⟨k, S, hp0, hp1, hkk1, hE5, hE35, hE0, hE1, hE2, hE3, rfl⟩ := hI
          refine tc_env (d := 5) hE5 ?_; refine tc_env (d := 35) hE35 ?_; refine tc_env (d := 0) hE0 ?_; refine tc_env (d := 1) hE1 ?_; refine tc_env (d := 2) hE2 ?_; refine tc_env (d := 3) hE3 ?_
          clear hE5 hE35 hE0 hE1 hE2 hE3
          refine tc_seq ?_; refine tc_seq ?_; refine tc_reg ?_; refine tlm ?_; refine tl_v rfl (by first | exact o_load p3 rfl (by repeat (first | with_reducible exact has_here | with_reducible exact has_pt | apply has_left)) rfl | exact o_loadC p3 rfl (by assumption)) ?_; refine tl_v rfl (by first | exact o_load p3 rfl (by repeat (first | with_reducible exact has_here | with_reducible exact has_pt | apply has_left)) rfl | exact o_loadC p3 rfl (by assumption)) ?_; refine tl_v rfl (by first | exact o_addI rfl rfl (by omega) | exact o_add rfl rfl) ?_; refine tl_v rfl (by first | exact o_subI rfl rfl (by omega) | exact o_sub rfl rfl) ?_; refine tl_v rfl (by first | exact o_load p3 rfl (by repeat (first | with_reducible exact has_here | with_reducible exact has_pt | apply has_left)) rfl | exact o_loadC p3 rfl (by assumption)) ?_; refine tl_v rfl (o_quoI rfl rfl (by omega)) ?_; refine tl_v rfl (o_leq rfl rfl) ?_; refine tl_nil ?_; refine q_then_n ?_; refine tc_cond rfl (fun h => ?_) (fun h => ?_)
          · try simp only [lv1, lv2, lv3, lv4, lv5, lv6, Bool.not_true, Bool.not_false] at h
            refine tc_skip ?_; refine q_then_n ?_; refine tc_seq ?_; refine tc_block ?_; refine tc_seq ?_; refine tc_reg ?_; refine tlm ?_; refine tlm ?_; refine tl_y rfl rfl rfl (yd_b (F := pt b1 (cl [.int .i64 (at_ : Int)] 3) * pt b2 (cl [.int .i64 (n : Int)] 3) * pt b3 (cl [.int .i64 8] 3)) (G := fun S' => S' * pt b1 (cl [.int .i64 (at_ : Int)] 3) * pt b2 (cl [.int .i64 (n : Int)] 3) * pt b3 (cl [.int .i64 8] 3)) (hY _ k S (by omega) hp1) (by ac_rfl) (fun S' => by ac_rfl)) ?_; rintro _ _ ⟨b33, S2, rfl, hT, hF, rfl⟩; refine tl_v rfl (o_not rfl) ?_; refine tl_nil ?_; refine q_then_n ?_; refine tc_cond rfl (fun h => ?_) (fun h => ?_)
            · have hb : b33 = false := by simpa using h
              subst hb
              refine tc_ret ?_; refine q_block_r (q_then_r (q_then_r (q_block_r ?_))); exact ⟨[], _, rfl, fun _ _ h => mk0 h, .tuple #[], S2 * pt b1 (cl [.int .i64 (at_ : Int)] 3) * pt b2 (cl [.int .i64 (n : Int)] 3) * pt b3 (cl [.int .i64 8] 3), res0 rfl, fun _ _ h => h, rfl, .inr ⟨S2, hF rfl, rfl⟩⟩
            · have hb : b33 = true := by simpa using h
              subst hb
              refine tc_skip ?_; refine q_block_n (q_then_n ?_); refine tc_reg ?_; refine tlm ?_; refine tl_v rfl (by first | exact o_addI rfl rfl (by omega) | exact o_add rfl rfl) ?_; refine tla ?_; refine tl_nil ?_; refine q_then_n ?_; exact ⟨_, by omega, k + 1, _, by omega, hT rfl, rfl, rfl, rfl, rfl, rfl, rfl, rfl, rfl⟩
          · try simp only [lv1, lv2, lv3, lv4, lv5, lv6, Bool.not_true, Bool.not_false] at h
            refine tc_exit ?_; refine q_then_e (q_then_e (q_block_x ?_))
            obtain rfl : k = N := by omega
            exact ⟨[], _, rfl, fun _ _ h => mk0 h, .tuple #[], S * pt b1 (cl [.int .i64 (at_ : Int)] 3) * pt b2 (cl [.int .i64 (n : Int)] 3) * pt b3 (cl [.int .i64 8] 3), res0 rfl, fun _ _ h => h, rfl, .inl ⟨S, hp1, rfl⟩⟩
end Rg
theorem units_it {at_ n N b1 b2 b3 : Nat} (h1 : 1 ≤ n) (h2 : at_ + n ≤ 9223372036854775807) (hN : N = ((at_ + n - 1) / 8 - at_ / 8 + 1)) :
    Rg.It Try.prog 92 [] [.pointer (some ⟨b1, 0, none⟩), .pointer (some ⟨b2, 0, none⟩), .pointer (some ⟨b3, 0, none⟩)] (pt b1 (cl [.int .i64 (at_ : Int)] 3) * pt b2 (cl [.int .i64 (n : Int)] 3) * pt b3 (cl [.int .i64 8] 3)) N (fun i => [.int .i64 ((at_ / 8 + i : Nat) : Int)]) := fun l J X S0 h0 hY => by
  have hk : ∀ S : SP, S * (pt b1 (cl [.int .i64 (at_ : Int)] 3) * pt b2 (cl [.int .i64 (n : Int)] 3) * pt b3 (cl [.int .i64 8] 3)) = S * pt b1 (cl [.int .i64 (at_ : Int)] 3) * pt b2 (cl [.int .i64 (n : Int)] 3) * pt b3 (cl [.int .i64 8] 3) := fun S => star3 _ _ _ _
  rw [hk S0]
  refine (Rg.units1_f (J := J) (X := X) h1 h2 hN h0 hY).mono ?_; rintro v B ⟨rfl, ⟨S, hS, rfl⟩ | ⟨S, hS, rfl⟩⟩
  · exact ⟨rfl, .inl ⟨S, hS, (hk S).symm⟩⟩
  · exact ⟨rfl, .inr ⟨S, hS, (hk S).symm⟩⟩
theorem units_c {A : SP} {at_ n : Nat} :
    Fn Try.prog 91 #[.int .i64 (at_ : Nat), .int .i64 (n : Nat), .int .i64 8] (A) (fun r B => ∃ b1 b2 b3, r = .func (.func 92) #[] #[.pointer (some ⟨b1, 0, none⟩), .pointer (some ⟨b2, 0, none⟩), .pointer (some ⟨b3, 0, none⟩)] ∧ B = A * (pt b1 (cl [.int .i64 (at_ : Int)] 3) * pt b2 (cl [.int .i64 (n : Int)] 3) * pt b3 (cl [.int .i64 8] 3))) := by
  refine fn_enterW (args := [.int .i64 (at_ : Nat), .int .i64 (n : Nat), .int .i64 8]) Try.func91 rfl Try.ntmps91 (by simp) ?_; refine sr ?_; refine tl_x rfl (o_box rfl rfl) ?_; rintro _ _ ⟨b3, rfl, rfl⟩; refine tl_x rfl (o_box rfl rfl) ?_; rintro _ _ ⟨b4, rfl, rfl⟩; refine tl_x rfl (o_box rfl rfl) ?_; rintro _ _ ⟨b5, rfl, rfl⟩; refine tla ?_; refine nq ?_; refine sr ?_; refine tv (o_makeFunc rfl rfl) ?_; refine tla ?_; refine nq ?_; refine tc_ret ?_; exact ⟨_, _, res1 rfl rfl, fun _ _ h => h, b3, b4, b5, rfl, (star3 _ _ _ _).symm⟩
theorem Words_c {A : SP} {at_ n : Nat} :
    Fn Try.prog 90 #[.int .i64 (at_ : Nat), .int .i64 (n : Nat)] (A) (fun r B => ∃ b1 b2 b3, r = .func (.func 92) #[] #[.pointer (some ⟨b1, 0, none⟩), .pointer (some ⟨b2, 0, none⟩), .pointer (some ⟨b3, 0, none⟩)] ∧ B = A * (pt b1 (cl [.int .i64 (at_ : Int)] 3) * pt b2 (cl [.int .i64 (n : Int)] 3) * pt b3 (cl [.int .i64 8] 3))) := by
  refine fn_enterW (args := [.int .i64 (at_ : Nat), .int .i64 (n : Nat)]) Try.func90 rfl Try.ntmps90 (by simp) ?_; refine sr ?_; refine tla ?_; refine nq ?_; refine sr ?_; refine tlm ?_; refine tlm ?_; refine tl_c rfl (o_call bd91 rfl (units_c)) ?_; rintro _ _ ⟨b17, b27, b37, rfl, rfl⟩; refine tla ?_; refine nq ?_; refine tc_ret ?_; exact ⟨_, _, res1 rfl rfl, fun _ _ h => h, b17, b27, b37, rfl, rfl⟩
namespace Rg
theorem Lines1_f {at_ n l0 N b1 b2 : Nat} {J : Nat → SP → Prop} {X : SP → Prop} {S0 : SP} (h1 : 1 ≤ n) (h2 : at_ + n ≤ 9223372036854775807) (hN : N = (at_ + n - 1) / 64 - at_ / 64 + 1) (h0 : J 0 S0) (hY : ∀ F i S, i < N → J i S → Yd Try.prog l0 #[.int .i64 ((at_ / 64 + i : Nat) : Int)] (F * S) (fun v B => ∃ (b : Bool) (S' : SP), v = .bool b ∧ (b = true → J (i + 1) S') ∧ (b = false → X S') ∧ B = F * S')) :
    Fn Try.prog 89 #[.func (.yield l0) #[] #[], .pointer (some ⟨b1, 0, none⟩), .pointer (some ⟨b2, 0, none⟩)] (S0 * pt b1 (cl [.int .i64 (at_ : Int)] 3) * pt b2 (cl [.int .i64 (n : Int)] 3)) (fun r B => r = .tuple #[] ∧ ((∃ S, J N S ∧ B = S * pt b1 (cl [.int .i64 (at_ : Int)] 3) * pt b2 (cl [.int .i64 (n : Int)] 3)) ∨ ∃ S, X S ∧ B = S * pt b1 (cl [.int .i64 (at_ : Int)] 3) * pt b2 (cl [.int .i64 (n : Int)] 3))) := by
  refine fn_enterW (args := [.func (.yield l0) #[] #[], .pointer (some ⟨b1, 0, none⟩), .pointer (some ⟨b2, 0, none⟩)]) Try.func89 rfl Try.ntmps89 (by simp) ?_; refine tc_seq ?_; refine tc_reg ?_; refine tl_x rfl (o_box rfl rfl) ?_; rintro _ _ ⟨b3, rfl, rfl⟩; refine tl_nil ?_; refine q_then_n ?_; refine tc_seq ?_; refine tc_reg ?_; refine tl_x rfl (o_alloc z3 rfl) ?_; rintro _ _ ⟨b4, rfl, rfl⟩; refine tl_u rfl (o_stU rfl (by repeat (first | with_reducible exact upd_here | with_reducible exact upd_pt | apply upd_left)) sz3 rfl rfl (by first | decide | simp | omega) rfl) ?_; refine tl_nil ?_; refine q_then_n ?_; refine tc_seq ?_; refine tc_reg ?_; refine tl_v rfl (by first | exact o_load p3 rfl (by repeat (first | with_reducible exact has_here | with_reducible exact has_pt | apply has_left)) rfl | exact o_loadC p3 rfl (by assumption)) ?_; refine tl_v rfl (by first | exact o_load p3 rfl (by repeat (first | with_reducible exact has_here | with_reducible exact has_pt | apply has_left)) rfl | exact o_loadC p3 rfl (by assumption)) ?_; refine tl_c rfl (o_call bd90 rfl (Words_c)) ?_; rintro _ _ ⟨w1, w2, w3, rfl, rfl⟩; refine tl_nil ?_; refine q_then_n ?_; refine tc_block ?_; refine tc_rangeI (K := (pt w1 (cl [.int .i64 (at_ : Int)] 3) * pt w2 (cl [.int .i64 (n : Int)] 3) * pt w3 (cl [.int .i64 8] 3))) (N := ((at_ + n - 1) / 8 - at_ / 8 + 1)) (A0 := S0 * pt b1 (cl [.int .i64 (at_ : Int)] 3) * pt b2 (cl [.int .i64 (n : Int)] 3) * pt b3 (cl [.func (.yield l0) #[] #[]] 88) * pt b4 (cl [.int .i64 (-1)] 3)) (fun i S => ∃ (S1 : SP) (c : Nat) (ws : Int), (J c S1) ∧ ((i = 0 ∧ c = 0 ∧ ws = -1) ∨ (0 < i ∧ ws = (((at_ / 8 + i - 1) / 8 : Nat) : Int) ∧ c = (at_ / 8 + i - 1) / 8 - at_ / 64 + 1)) ∧ S = S1 * pt b1 (cl [.int .i64 (at_ : Int)] 3) * pt b2 (cl [.int .i64 (n : Int)] 3) * pt b3 (cl [.func (.yield l0) #[] #[]] 88) * pt b4 (cl [.int .i64 ws] 3)) (fun j S => ∃ (S1 : SP) (ws : Int), j = .ret ∧ (X S1) ∧ S = S1 * pt b1 (cl [.int .i64 (at_ : Int)] 3) * pt b2 (cl [.int .i64 (n : Int)] 3) * pt b3 (cl [.func (.yield l0) #[] #[]] 88) * pt b4 (cl [.int .i64 ws] 3)) rfl bd92 (units_it (N := ((at_ + n - 1) / 8 - at_ / 8 + 1)) h1 h2 rfl) (fun _ => rfl) rfl (Dr.sat (by repeat (first | with_reducible exact dr_refl | apply dr_keep | apply dr_drop))) (⟨S0, 0, -1, h0, by omega, rfl⟩) ?_ ?_ ?_
  · intro l F i S hi hI
    obtain ⟨S1, c, ws, hi0, hi1, rfl⟩ := hI
    refine tc_eq (by simp only [← star_assoc]; rfl) ?_
    have hcN : (at_ / 8 + i) / 8 - at_ / 64 < N := by omega
    refine tc_env (d := 10) (v := .int .i64 ((at_ / 8 + i : Nat) : Int)) (rfl) ?_; refine tc_reg ?_; refine tla ?_; refine tl_nil ?_; refine ⟨S1 * pt b1 (cl [.int .i64 (at_ : Int)] 3) * pt b2 (cl [.int .i64 (n : Int)] 3) * pt b3 (cl [.func (.yield l0) #[] #[]] 88) * pt b4 (cl [.int .i64 ws] 3), fun g w h => by simp only [← star_assoc]; exact Dr.sat (by repeat (first | with_reducible exact dr_refl | apply dr_keep | apply dr_drop)) g w h, fun F => ?_⟩; refine tc_eq (by simp only [← star_assoc]; rfl) ?_; refine tc_block ?_; refine tc_seq ?_; refine tc_reg ?_; refine tlm ?_; refine tl_v rfl (o_quoN (b := 8) rfl rfl (by omega)) ?_; refine tla ?_; refine tl_nil ?_; refine q_then_n ?_; refine tc_seq ?_; refine tc_seq ?_; refine tc_reg ?_; refine tlm ?_; refine tl_v rfl (by first | exact o_load p3 rfl (by repeat (first | with_reducible exact has_here | with_reducible exact has_pt | apply has_left)) rfl | exact o_loadC p3 rfl (by assumption)) ?_; refine tl_v rfl (o_nei rfl rfl) ?_; refine tlm ?_; refine tl_bool (d := 16) rfl (fun h => ?_) (fun h => ?_)
    · have hne : (at_ / 8 + i) / 8 = at_ / 64 + c := by simp at h; omega
      refine tl_v rfl (by first | exact o_load p88 rfl (by repeat (first | with_reducible exact has_here | with_reducible exact has_pt | apply has_left)) rfl | exact o_loadC p88 rfl (by assumption)) ?_; refine tlm ?_; refine tl_env (d := 18) (v := .int .i64 ((at_ / 64 + c : Nat) : Int)) (congrArg (fun z : Nat => Value.int .i64 (z : Int)) hne) ?_; refine tl_y rfl rfl rfl (yd_b (F := F * pt b1 (cl [.int .i64 (at_ : Int)] 3) * pt b2 (cl [.int .i64 (n : Int)] 3) * pt b3 (cl [.func (.yield l0) #[] #[]] 88) * pt b4 (cl [.int .i64 ws] 3)) (G := fun S' => F * S' * pt b1 (cl [.int .i64 (at_ : Int)] 3) * pt b2 (cl [.int .i64 (n : Int)] 3) * pt b3 (cl [.func (.yield l0) #[] #[]] 88) * pt b4 (cl [.int .i64 ws] 3)) (S := S1) (hY _ c S1 (by omega) hi0) (by ac_rfl) (fun S' => by ac_rfl)) ?_; rintro _ _ ⟨b19, S2, rfl, hT, hF, rfl⟩; refine tl_v rfl (o_not rfl) ?_; refine tl_v rfl (o_pick_t rfl (by conv => lhs; whnf)) ?_; refine tl_nil ?_; refine q_then_n ?_; refine tc_cond rfl (fun h => ?_) (fun h => ?_)
      · have hb : b19 = false := by simpa using h
        subst hb
        refine tc_ret ?_; refine q_then_r (q_block_r ?_); exact ⟨(S2) * pt b1 (cl [.int .i64 (at_ : Int)] 3) * pt b2 (cl [.int .i64 (n : Int)] 3) * pt b3 (cl [.func (.yield l0) #[] #[]] 88) * pt b4 (cl [.int .i64 (ws)] 3), fun g w h => by simp only [← star_assoc]; exact Dr.sat (by repeat (first | with_reducible exact dr_refl | apply dr_keep | apply dr_drop)) g w h, S2, ws, rfl, hF rfl, rfl⟩
      · have hb : b19 = true := by simpa using h
        subst hb
        refine tc_skip ?_; refine q_then_n ?_
        try rw [← hne]
        refine tc_reg ?_; refine tlm ?_; refine tl_u rfl (o_stU rfl (by repeat (first | with_reducible exact upd_here | with_reducible exact upd_pt | apply upd_left)) sz3 rfl rfl (by first | decide | simp | omega) rfl) ?_; refine tl_nil ?_; refine q_block_n ?_; exact ⟨(S2) * pt b1 (cl [.int .i64 (at_ : Int)] 3) * pt b2 (cl [.int .i64 (n : Int)] 3) * pt b3 (cl [.func (.yield l0) #[] #[]] 88) * pt b4 (cl [.int .i64 ((((at_ / 8 + i) / 8 : Nat) : Int))] 3), fun g w h => by simp only [← star_assoc]; exact Dr.sat (by repeat (first | with_reducible exact dr_refl | apply dr_keep | apply dr_drop)) g w h, S2, c + 1, (((at_ / 8 + i) / 8 : Nat) : Int), hT rfl, by omega, rfl⟩
    · have hne : (((at_ / 8 + i) / 8 : Nat) : Int) = ws := by simpa using h
      refine tl_skip rfl ?_; refine tl_skip rfl ?_; refine tl_skip rfl ?_; refine tl_skip rfl ?_; refine tl_v rfl (o_pick_f rfl (by conv => lhs; whnf)) ?_; refine tl_nil ?_; refine q_then_n ?_; refine tc_cond_f rfl ?_; refine tc_skip ?_; refine q_then_n ?_
      try rw [← hne]
      refine tc_reg ?_; refine tlm ?_; refine tl_u rfl (o_stU rfl (by repeat (first | with_reducible exact upd_here | with_reducible exact upd_pt | apply upd_left)) sz3 rfl rfl (by first | decide | simp | omega) rfl) ?_; refine tl_nil ?_; refine q_block_n ?_; exact ⟨(S1) * pt b1 (cl [.int .i64 (at_ : Int)] 3) * pt b2 (cl [.int .i64 (n : Int)] 3) * pt b3 (cl [.func (.yield l0) #[] #[]] 88) * pt b4 (cl [.int .i64 ((((at_ / 8 + i) / 8 : Nat) : Int))] 3), fun g w h => by simp only [← star_assoc]; exact Dr.sat (by repeat (first | with_reducible exact dr_refl | apply dr_keep | apply dr_drop)) g w h, S1, c, (((at_ / 8 + i) / 8 : Nat) : Int), hi0, by omega, rfl⟩
  · intro r S hI
    obtain ⟨S1, c, ws, hi0, hi1, rfl⟩ := hI
    refine q_block_n ?_
    obtain rfl : c = N := by omega
    exact ⟨[r], S1 * pt b1 (cl [.int .i64 (at_ : Int)] 3) * pt b2 (cl [.int .i64 (n : Int)] 3), rfl, fun _ _ h => mk1 (Dr.sat (A' := S1 * pt b1 (cl [.int .i64 (at_ : Int)] 3) * pt b2 (cl [.int .i64 (n : Int)] 3) * pt r mkO) (by repeat (first | with_reducible exact dr_refl | apply dr_keep | apply dr_drop)) _ _ h), .tuple #[], S1 * pt b1 (cl [.int .i64 (at_ : Int)] 3) * pt b2 (cl [.int .i64 (n : Int)] 3), res0 rfl, fun _ _ h => h, rfl, .inl ⟨S1, hi0, rfl⟩⟩
  · intro r j S hX
    obtain ⟨S1, ws, rfl, hx0, rfl⟩ := hX
    refine jmp_r ?_; refine q_block_r ?_; exact ⟨[r], S1 * pt b1 (cl [.int .i64 (at_ : Int)] 3) * pt b2 (cl [.int .i64 (n : Int)] 3), rfl, fun _ _ h => mk1 (Dr.sat (A' := S1 * pt b1 (cl [.int .i64 (at_ : Int)] 3) * pt b2 (cl [.int .i64 (n : Int)] 3) * pt r mkO) (by repeat (first | with_reducible exact dr_refl | apply dr_keep | apply dr_drop)) _ _ h), .tuple #[], S1 * pt b1 (cl [.int .i64 (at_ : Int)] 3) * pt b2 (cl [.int .i64 (n : Int)] 3), res0 rfl, fun _ _ h => h, rfl, .inr ⟨S1, hx0, rfl⟩⟩
end Rg
theorem Lines_it {at_ n N b1 b2 : Nat} (h1 : 1 ≤ n) (h2 : at_ + n ≤ 9223372036854775807) (hN : N = (at_ + n - 1) / 64 - at_ / 64 + 1) :
    Rg.It Try.prog 89 [] [.pointer (some ⟨b1, 0, none⟩), .pointer (some ⟨b2, 0, none⟩)] (pt b1 (cl [.int .i64 (at_ : Int)] 3) * pt b2 (cl [.int .i64 (n : Int)] 3)) N (fun i => [.int .i64 ((at_ / 64 + i : Nat) : Int)]) := fun l J X S0 h0 hY => by
  have hk : ∀ S : SP, S * (pt b1 (cl [.int .i64 (at_ : Int)] 3) * pt b2 (cl [.int .i64 (n : Int)] 3)) = S * pt b1 (cl [.int .i64 (at_ : Int)] 3) * pt b2 (cl [.int .i64 (n : Int)] 3) := fun S => star2' _ _ _
  rw [hk S0]
  refine (Rg.Lines1_f (J := J) (X := X) h1 h2 hN h0 hY).mono ?_; rintro v B ⟨rfl, ⟨S, hS, rfl⟩ | ⟨S, hS, rfl⟩⟩
  · exact ⟨rfl, .inl ⟨S, hS, (hk S).symm⟩⟩
  · exact ⟨rfl, .inr ⟨S, hS, (hk S).symm⟩⟩
theorem Lines_c {A : SP} {at_ n : Nat} :
    Fn Try.prog 85 #[.int .i64 (at_ : Nat), .int .i64 (n : Nat)] (A) (fun r B => ∃ b1 b2, r = .func (.func 89) #[] #[.pointer (some ⟨b1, 0, none⟩), .pointer (some ⟨b2, 0, none⟩)] ∧ B = A * (pt b1 (cl [.int .i64 (at_ : Int)] 3) * pt b2 (cl [.int .i64 (n : Int)] 3))) := by
  refine fn_enterW (args := [.int .i64 (at_ : Nat), .int .i64 (n : Nat)]) Try.func85 rfl Try.ntmps85 (by simp) ?_; refine sr ?_; refine tl_x rfl (o_box rfl rfl) ?_; rintro _ _ ⟨b2, rfl, rfl⟩; refine tl_x rfl (o_box rfl rfl) ?_; rintro _ _ ⟨b3, rfl, rfl⟩; refine tla ?_; refine nq ?_; refine sr ?_; refine tv (o_makeFunc rfl rfl) ?_; refine tla ?_; refine nq ?_; refine tc_ret ?_; exact ⟨_, _, res1 rfl rfl, fun _ _ h => h, b2, b3, rfl, (star2' _ _ _).symm⟩
end Go.Vl

set_option linter.unusedVariables false
set_option linter.unusedSimpArgs false
namespace Go.Vl
open Go Go.Proofs
theorem ct_wf2 {A R : SP} {C : SP → SP} {d : Nat} {s : DevS} (hc : Ct A (Dev d s) R C) {g : Gh} {w : World} (hs : sat g w A) : WfD s := by
  obtain ⟨rfl, _⟩ := hc; exact (dev_iff.1 hs).1
theorem doneS_len (s : DevS) : (doneS s).ls.length = s.ls.length := by
  unfold doneS
  split
  · rfl
  · split
    · rfl
    · simp [goesS, goPart_length]
theorem fl1_len (p : Int) (s : DevS) : (fl1 p s).2.ls.length = s.ls.length := by
  unfold fl1
  split
  · rfl
  · rw [doneS_len]; exact (onLine_fields _ _ s).2.2.2.2
/-- Lines are flushed, one behind the other; then the fence. -/
def flF : Nat → Nat → DevS → Int × DevS
  | 0, _, s => fe s
  | k + 1, q, s => if (fl1 ((q * 64 : Nat) : Int) s).1 ≠ 0 then fl1 ((q * 64 : Nat) : Int) s else flF k (q + 1) (fl1 ((q * 64 : Nat) : Int) s).2
theorem flF_zero (q : Nat) (s : DevS) : flF 0 q s = fe s := rfl
theorem flF_e {N i q : Nat} {s s2 : DevS} {e : Int} (hi : i < N) (h : fl1 (((q + i) * 64 : Nat) : Int) s = (e, s2)) (he : e ≠ 0) : flF (N - i) (q + i) s = (e, s2) := by
  rw [show N - i = (N - (i + 1)) + 1 by omega]
  show (if _ then _ else _) = _
  rw [h, if_pos he]
theorem flF_o {N i q : Nat} {s s2 : DevS} (hi : i < N) (h : fl1 (((q + i) * 64 : Nat) : Int) s = (0, s2)) : flF (N - i) (q + i) s = flF (N - (i + 1)) (q + (i + 1)) s2 := by
  rw [show N - i = (N - (i + 1)) + 1 by omega]
  show (if _ then _ else _) = _
  rw [h, if_neg (by simp)]; rfl
/-- A range is made to last. -/
def lastS (p m : Nat) (s : DevS) : Int × DevS := flF ((p + m - 1) / 64 - p / 64 + 1) (p / 64) s
attribute [local irreducible] Sl pt ro Dev imgS
namespace Rg
theorem last_c {A R : SP} {C : SP → SP} {d : Nat} {s : DevS} (hc : Ct A (Dev d s) R C := by repeat (first | with_reducible exact ct_here | apply ct_left)) {p m : Nat} (h1 : 1 ≤ m := by omega) (hpm : p + m ≤ s.ls.length * 64 := by omega) :
    Fn Try.prog 76 #[.pointer (some ⟨d, 0, none⟩), .int .i64 (p : Nat), .int .i64 (m : Nat)] (A) (fun r B => ∃ e s2, lastS p m s = (e, s2) ∧ r = .int .i64 e ∧ B = C (Dev d s2)) := by
  refine fn_enterW (args := [.pointer (some ⟨d, 0, none⟩), .int .i64 (p : Nat), .int .i64 (m : Nat)]) Try.func76 rfl Try.ntmps76 (by simp) ?_; refine tc_have (fun _ _ h => ct_wf2 hc h) fun hw => ?_
  obtain ⟨rfl, hC⟩ := hc
  have htop := hw.top
  refine tc_seq ?_; refine tc_reg ?_; refine tl_x rfl (o_alloc z25 rfl) ?_; rintro _ _ ⟨b6, rfl, rfl⟩; refine tl_nil ?_; refine q_then_n ?_; refine tc_seq ?_; refine tc_reg ?_; refine tlm ?_; refine tl_v rfl (o_makeFunc rfl rfl) ?_; refine tl_x rfl (o_alloc z150 rfl) ?_; rintro _ _ ⟨b7, rfl, rfl⟩; refine tl_u rfl (o_stU rfl (by repeat (first | with_reducible exact upd_here | with_reducible exact upd_pt | apply upd_left)) sz150 rfl rfl (by first | decide | simp | omega) rfl) ?_; refine tl_nil ?_; refine q_then_n ?_; refine tc_seq ?_; refine tc_seq ?_; refine tc_reg ?_; refine tlm ?_; refine tlm ?_; refine tl_c rfl (o_call bd85 rfl (Lines_c)) ?_; rintro _ _ ⟨w1, w2, rfl, rfl⟩; refine tl_nil ?_; refine q_then_n ?_; refine tc_block ?_; refine tc_rangeI (K := (pt w1 (cl [.int .i64 (p : Int)] 3) * pt w2 (cl [.int .i64 (m : Int)] 3))) (N := ((p + m - 1) / 64 - p / 64 + 1)) (A0 := R * Dev d s * pt b6 (cl [.int .i64 0] 25) * pt b7 (cl [.func (.func 64) #[.pointer (some ⟨d, 0, none⟩)] #[]] 150)) (fun i S => ∃ (s1 : DevS), (flF (((p + m - 1) / 64 - p / 64 + 1) - i) (p / 64 + i) s1 = flF ((p + m - 1) / 64 - p / 64 + 1) (p / 64) s) ∧ (s1.ls.length = s.ls.length) ∧ S = R * Dev d s1 * pt b6 (cl [.int .i64 0] 25) * pt b7 (cl [.func (.func 64) #[.pointer (some ⟨d, 0, none⟩)] #[]] 150)) (fun j S => ∃ (e : Int) (s1 : DevS), j = .ret ∧ (flF ((p + m - 1) / 64 - p / 64 + 1) (p / 64) s = (e, s1)) ∧ S = R * Dev d s1 * pt b6 (cl [.int .i64 e] 25) * pt b7 (cl [.func (.func 64) #[.pointer (some ⟨d, 0, none⟩)] #[]] 150)) rfl bd89 (Lines_it (N := ((p + m - 1) / 64 - p / 64 + 1)) h1 (by omega) rfl) (fun _ => rfl) rfl (Dr.sat (by repeat (first | with_reducible exact dr_refl | apply dr_keep | apply dr_drop))) (⟨s, rfl, rfl, rfl⟩) ?_ ?_ ?_
  · intro l F i S hi hI
    obtain ⟨s1, hi0, hi1, rfl⟩ := hI
    refine tc_eq (by simp only [← star_assoc]; rfl) ?_; refine tc_env (d := 15) (v := .int .i64 ((p / 64 + i : Nat) : Int)) (rfl) ?_; refine tc_reg ?_; refine tla ?_; refine tl_nil ?_; refine ⟨R * Dev d s1 * pt b6 (cl [.int .i64 0] 25) * pt b7 (cl [.func (.func 64) #[.pointer (some ⟨d, 0, none⟩)] #[]] 150), fun g w h => by simp only [← star_assoc]; exact Dr.sat (by repeat (first | with_reducible exact dr_refl | apply dr_keep | apply dr_drop)) g w h, fun F => ?_⟩; refine tc_eq (by simp only [← star_assoc]; rfl) ?_; refine tc_block ?_; refine tc_seq ?_; refine tc_reg ?_; refine tl_v rfl (by first | exact o_load p150 rfl (by repeat (first | with_reducible exact has_here | with_reducible exact has_pt | apply has_left)) rfl | exact o_loadC p150 rfl (by assumption)) ?_; refine tlm ?_; refine tl_v rfl (by first | exact o_mulI rfl rfl (by omega) | exact o_mul rfl rfl) ?_; refine tl_env (d := 18) (v := .int .i64 (((p / 64 + i) * 64 : Nat) : Int)) (rfl) ?_; refine tl_c rfl (o_dyn bd64 rfl rfl (Flush_c (s := s1) (p := (((p / 64 + i) * 64 : Nat) : Int)))) ?_; rintro _ _ ⟨e19, s19, hs19, rfl, rfl⟩; refine tla ?_; refine tl_nil ?_; refine q_then_n ?_; refine tc_seq ?_; refine tc_reg ?_; refine tlm ?_; refine tl_v rfl (o_nei rfl rfl) ?_; refine tl_nil ?_; refine q_then_n ?_; refine tc_cond rfl (fun h => ?_) (fun h => ?_)
    · have h : e19 ≠ 0 := by simpa using h
      refine tc_seq ?_; refine tc_reg ?_; refine tlm ?_; refine tl_u rfl (o_stU rfl (by repeat (first | with_reducible exact upd_here | with_reducible exact upd_pt | apply upd_left)) sz25 rfl rfl (by first | decide | simp | omega) rfl) ?_; refine tl_nil ?_; refine q_then_n ?_; refine tc_ret ?_; refine q_block_r ?_; exact ⟨R * Dev d (s19) * pt b6 (cl [.int .i64 (e19)] 25) * pt b7 (cl [.func (.func 64) #[.pointer (some ⟨d, 0, none⟩)] #[]] 150), fun g w h => by simp only [← star_assoc]; exact Dr.sat (by repeat (first | with_reducible exact dr_refl | apply dr_keep | apply dr_drop)) g w h, e19, s19, rfl, by rw [← hi0]; exact flF_e hi hs19 h, rfl⟩
    · obtain rfl : e19 = 0 := by simpa using h
      refine tc_skip ?_; refine q_block_n ?_; exact ⟨R * Dev d (s19) * pt b6 (cl [.int .i64 0] 25) * pt b7 (cl [.func (.func 64) #[.pointer (some ⟨d, 0, none⟩)] #[]] 150), fun g w h => by simp only [← star_assoc]; exact Dr.sat (by repeat (first | with_reducible exact dr_refl | apply dr_keep | apply dr_drop)) g w h, s19, by rw [← hi0]; exact (flF_o hi hs19).symm, by have := fl1_len (((p / 64 + i) * 64 : Nat) : Int) s1; rw [hs19] at this; exact this.trans hi1, rfl⟩
  · intro r S hI
    obtain ⟨s1, hi0, hi1, rfl⟩ := hI
    refine q_block_n (q_then_n ?_); refine tc_seq ?_; refine tc_reg ?_; refine tlm ?_; refine tl_c rfl (o_call bd65 rfl (Fence_c (s := s1))) ?_; rintro _ _ ⟨e24, s24, hs24, rfl, rfl⟩
    have hlast : lastS p m s = (e24, s24) := by show flF _ _ _ = _; rw [← hi0, Nat.sub_self]; exact hs24
    refine tl_u rfl (o_stU rfl (by repeat (first | with_reducible exact upd_here | with_reducible exact upd_pt | apply upd_left)) sz25 rfl rfl (by first | decide | simp | omega) rfl) ?_; refine tl_nil ?_; refine q_then_n ?_; refine tc_ret ?_; exact ⟨[r], R * Dev d s24 * pt b6 (cl [.int .i64 e24] 25), rfl, fun _ _ h => mk1 (Dr.sat (A' := R * Dev d s24 * pt b6 (cl [.int .i64 e24] 25) * pt r mkO) (by repeat (first | with_reducible exact dr_refl | apply dr_keep | apply dr_drop)) _ _ h), .int .i64 e24, C (Dev d s24), resA1 rfl (rv_cell1 p25 rfl (by repeat (first | with_reducible exact has_here | with_reducible exact has_pt | apply has_left)) rfl), fun _ _ h => by rw [hC]; exact h.left, e24, s24, hlast, rfl, rfl⟩
  · intro r j S hX
    obtain ⟨e, s1, rfl, hx0, rfl⟩ := hX
    refine jmp_r ?_; refine q_block_r (q_then_r ?_); exact ⟨[r], R * Dev d s1 * pt b6 (cl [.int .i64 e] 25), rfl, fun _ _ h => mk1 (Dr.sat (A' := R * Dev d s1 * pt b6 (cl [.int .i64 e] 25) * pt r mkO) (by repeat (first | with_reducible exact dr_refl | apply dr_keep | apply dr_drop)) _ _ h), .int .i64 e, C (Dev d s1), resA1 rfl (rv_cell1 p25 rfl (by repeat (first | with_reducible exact has_here | with_reducible exact has_pt | apply has_left)) rfl), fun _ _ h => by rw [hC]; exact h.left, e, s1, hx0, rfl, rfl⟩
end Rg
end Go.Vl

set_option linter.unusedVariables false
set_option linter.unusedSimpArgs false
namespace Go.Vl
open Go Go.Proofs
def insB (n : Nat) (p m : Int) : Bool := decide (0 ≤ p ∧ 0 ≤ m ∧ p ≤ (n : Int) * 64 ∧ m ≤ (n : Int) * 64 - p)
theorem insB_rdy {n : Nat} {p m : Int} : insB n p m = true ↔ rdy n false p m = 0 := by
  unfold insB rdy
  simp only [decide_eq_true_eq, Bool.false_eq_true, if_false]
  constructor
  · intro h; rw [if_neg (by omega)]
  · intro h
    by_cases hc : p < 0 ∨ m < 0 ∨ (n : Int) * 64 < p ∨ (n : Int) * 64 - p < m
    · rw [if_pos hc] at h; exact absurd h (by decide)
    · omega
theorem stE_off {s : DevS} (h : stE s ≠ 0) : s.off = true := by
  unfold stE at h; by_cases e : s.off = true
  · exact e
  · rw [if_neg e] at h; exact absurd rfl h
theorem stE_on {s : DevS} (h : stE s = 0) : s.off = false := by
  unfold stE at h; by_cases e : s.off = true
  · rw [if_pos e] at h; exact absurd h (by decide)
  · simpa using e
theorem layS_len' (p v : Nat) (s : DevS) : (layS p v s).ls.length = s.ls.length := (onLine_fields _ _ s).2.2.2.2
theorem storeF_len : ∀ (f p : Nat) (b : List Nat) (s : DevS), (storeF f p b s).2.ls.length = s.ls.length
  | 0, _, _, _ => rfl
  | f + 1, p, b, s => by
    unfold storeF
    split
    · rfl
    · split
      · rw [doneS_len, layS_len']
      · rw [storeF_len, doneS_len, layS_len']
theorem sto_len (p : Int) (b : List Nat) (s : DevS) : (sto p b s).2.ls.length = s.ls.length := by
  unfold sto
  split
  · rfl
  · exact storeF_len _ _ _ _
theorem st8_len (p : Int) (v : Nat) (s : DevS) : (st8 p v s).2.ls.length = s.ls.length := by
  unfold st8
  split
  · rfl
  · split
    · rfl
    · rw [doneS_len, layS_len']
theorem st8_rdy {p : Int} {v : Nat} {s : DevS} (h : (st8 p v s).1 = 0) : rdy s.ls.length s.off p 8 = 0 := by
  unfold st8 at h
  split at h
  · exact h
  · rename_i h2; exact Classical.not_not.1 h2
/-- What Range, Bytes, Publish answer, and the device behind them. -/
def rangeP (p m : Int) (s : DevS) : Int × DevS := if s.off = true then (5, s) else if m < 1 then (0, s) else if rdy s.ls.length false p m ≠ 0 then (6, s) else lastS p.toNat m.toNat s
def bytesP (p : Int) (b : List Nat) (s : DevS) : Int × DevS := if s.off = true then (5, s) else if b = [] then (0, s) else if (sto p b s).1 ≠ 0 then sto p b s else lastS p.toNat b.length (sto p b s).2
def pubP (p : Int) (v : Nat) (s : DevS) : Int × DevS := if (st8 p v s).1 ≠ 0 then st8 p v s else lastS p.toNat 8 (st8 p v s).2
/-- A number of n bytes that is told. -/
def loadP (p : Int) (n : Nat) (s : DevS) : Nat × Int := if rdy s.ls.length s.off p n ≠ 0 then (0, rdy s.ls.length s.off p n) else (nm (((imgS s).drop p.toNat).take n), 0)
def wordP (p : Int) (s : DevS) : Nat × Int := if s.off = true then (0, 5) else if p % 8 ≠ 0 then (0, 6) else loadP p 8 s
attribute [local irreducible] Sl pt ro Dev imgS
theorem inside_c {A R : SP} {C : SP → SP} {d : Nat} {s : DevS} (hc : Ct A (Dev d s) R C := by repeat (first | with_reducible exact ct_here | apply ct_left)) {p m : Int} (hp : -9223372036854775808 ≤ p ∧ p ≤ 9223372036854775807 := by omega) (hm : -9223372036854775808 ≤ m ∧ m ≤ 9223372036854775807 := by omega) :
    Fn Try.prog 75 #[.pointer (some ⟨d, 0, none⟩), .int .i64 p, .int .i64 m] (A) (fun r B => r = .bool (insB s.ls.length p m) ∧ A = B) := by
  refine fn_enterW (args := [.pointer (some ⟨d, 0, none⟩), .int .i64 p, .int .i64 m]) Try.func75 rfl Try.ntmps75 (by simp) ?_; refine tc_have (fun _ _ h => ct_wf2 hc h) fun hw => ?_
  have htop := hw.top
  refine sr ?_; refine tla ?_; refine nq ?_; refine sr ?_; refine tlm ?_; refine tv (o_geq rfl rfl) ?_; refine tlm ?_; refine tl_bool (d := 9) rfl (fun h => ?_) (fun h => ?_)
  · try simp only [lv1, lv2, lv3, lv4, lv5, lv6, Bool.not_true, Bool.not_false] at h
    refine tlm ?_; refine tv (o_geq rfl rfl) ?_; refine tv (o_pick_t rfl (by conv => lhs; whnf)) ?_; refine tlm ?_; refine tl_bool (d := 13) rfl (fun h => ?_) (fun h => ?_)
    · try simp only [lv1, lv2, lv3, lv4, lv5, lv6, Bool.not_true, Bool.not_false] at h
      refine tlm ?_; refine tlm ?_; refine tl_c rfl (o_call bd45 rfl (Size_c hc)) ?_; rintro _ _ ⟨rfl, rfl⟩; refine tv (o_leq rfl rfl) ?_; refine tv (o_pick_t rfl (by conv => lhs; whnf)) ?_; refine tlm ?_; refine tl_bool (d := 19) rfl (fun h => ?_) (fun h => ?_)
      · try simp only [lv1, lv2, lv3, lv4, lv5, lv6, Bool.not_true, Bool.not_false] at h
        refine tlm ?_; refine tlm ?_; refine tl_c rfl (o_call bd45 rfl (Size_c hc)) ?_; rintro _ _ ⟨rfl, rfl⟩; refine tlm ?_; refine tv (by first | exact o_subI rfl rfl (by omega) | exact o_sub rfl rfl) ?_; refine tv (o_leq rfl rfl) ?_; refine tv (o_pick_t rfl (by conv => lhs; whnf)) ?_; refine tla ?_; refine nq ?_; refine tc_ret ?_; exact ⟨_, A, res1 rfl rfl, fun _ _ h => h, congrArg Value.bool (by rw [Bool.eq_iff_iff]; simp [insB]; omega), rfl⟩
      · try simp only [lv1, lv2, lv3, lv4, lv5, lv6, Bool.not_true, Bool.not_false] at h
        refine tk ?_; refine tk ?_; refine tk ?_; refine tk ?_; refine tk ?_; refine tk ?_; refine tv (o_pick_f rfl (by conv => lhs; whnf)) ?_; refine tla ?_; refine nq ?_; refine tc_ret ?_; exact ⟨_, A, res1 rfl rfl, fun _ _ h => h, congrArg Value.bool (by rw [Bool.eq_iff_iff]; simp [insB]; omega), rfl⟩
    · try simp only [lv1, lv2, lv3, lv4, lv5, lv6, Bool.not_true, Bool.not_false] at h
      refine tk ?_; refine tk ?_; refine tk ?_; refine tk ?_; refine tv (o_pick_f rfl (by conv => lhs; whnf)) ?_; refine tlm ?_; refine tk ?_; refine tk ?_; refine tk ?_; refine tk ?_; refine tk ?_; refine tk ?_; refine tv (o_pick_f rfl (by conv => lhs; whnf)) ?_; refine tla ?_; refine nq ?_; refine tc_ret ?_; exact ⟨_, A, res1 rfl rfl, fun _ _ h => h, congrArg Value.bool (by rw [Bool.eq_iff_iff]; simp [insB]; omega), rfl⟩
  · try simp only [lv1, lv2, lv3, lv4, lv5, lv6, Bool.not_true, Bool.not_false] at h
    refine tk ?_; refine tk ?_; refine tv (o_pick_f rfl (by conv => lhs; whnf)) ?_; refine tlm ?_; refine tk ?_; refine tk ?_; refine tk ?_; refine tk ?_; refine tv (o_pick_f rfl (by conv => lhs; whnf)) ?_; refine tlm ?_; refine tk ?_; refine tk ?_; refine tk ?_; refine tk ?_; refine tk ?_; refine tk ?_; refine tv (o_pick_f rfl (by conv => lhs; whnf)) ?_; refine tla ?_; refine nq ?_; refine tc_ret ?_; exact ⟨_, A, res1 rfl rfl, fun _ _ h => h, congrArg Value.bool (by rw [Bool.eq_iff_iff]; simp [insB]; omega), rfl⟩
theorem Range_c {A R : SP} {C : SP → SP} {d : Nat} {s : DevS} (hc : Ct A (Dev d s) R C := by repeat (first | with_reducible exact ct_here | apply ct_left)) {p m : Int} (hp : -9223372036854775808 ≤ p ∧ p ≤ 9223372036854775807 := by omega) (hm : -9223372036854775808 ≤ m ∧ m ≤ 9223372036854775807 := by omega) :
    Fn Try.prog 56 #[.pointer (some ⟨d, 0, none⟩), .int .i64 p, .int .i64 m] (A) (fun r B => ∃ e s2, rangeP p m s = (e, s2) ∧ r = .int .i64 e ∧ B = C (Dev d s2)) := by
  refine fn_enterW (args := [.pointer (some ⟨d, 0, none⟩), .int .i64 p, .int .i64 m]) Try.func56 rfl Try.ntmps56 (by simp) ?_; refine tc_have (fun _ _ h => ct_wf2 hc h) fun hw => ?_
  obtain ⟨rfl, hC⟩ := hc
  have htop := hw.top
  have hpos := hw.pos
  have hAC : ∀ g w, sat g w (R * Dev d s) → sat g w (C (Dev d s)) := fun g w h => by rw [hC]; exact h
  refine sr ?_; refine tla ?_; refine nq ?_; refine tc_seq ?_; refine sr ?_; refine tlm ?_; refine tl_c rfl (o_call bd72 rfl (alive_c (s := s))) ?_; rintro _ _ ⟨rfl, rfl⟩; refine tla ?_; refine nq ?_; refine sr ?_; refine tlm ?_; refine tv (o_nei rfl rfl) ?_; refine nq ?_; refine tc_cond rfl (fun h => ?_) (fun h => ?_)
  · try simp only [lv1, lv2, lv3, lv4, lv5, lv6, Bool.not_true, Bool.not_false] at h
    refine sr ?_; refine tlm ?_; refine tla ?_; refine nq ?_; refine tc_ret ?_; refine q_then_r ?_; exact ⟨.int .i64 (stE s), C (Dev d s), res1 rfl rfl, hAC, stE s, s, by have ho := stE_off h; unfold rangeP stE; rw [if_pos ho, if_pos ho], rfl, rfl⟩
  · have ho : s.off = false := stE_on (by simpa using h)
    refine tc_skip ?_; refine q_then_n ?_; refine tc_seq ?_; refine sr ?_; refine tlm ?_; refine tv (o_lss rfl rfl) ?_; refine nq ?_; refine tc_cond rfl (fun h => ?_) (fun h => ?_)
    · try simp only [lv1, lv2, lv3, lv4, lv5, lv6, Bool.not_true, Bool.not_false] at h
      refine sr ?_; refine tla ?_; refine nq ?_; refine tc_ret ?_; refine q_then_r ?_; exact ⟨.int .i64 0, C (Dev d s), res1 rfl rfl, hAC, 0, s, by unfold rangeP; rw [if_neg (by rw [ho]; decide), if_pos h], rfl, rfl⟩
    · try simp only [lv1, lv2, lv3, lv4, lv5, lv6, Bool.not_true, Bool.not_false] at h
      refine tc_skip ?_; refine q_then_n ?_; refine tc_seq ?_; refine sr ?_; refine tlm ?_; refine tlm ?_; refine tlm ?_; refine tl_c rfl (o_call bd75 rfl (inside_c (s := s) (p := p) (m := m))) ?_; rintro _ _ ⟨rfl, rfl⟩; refine tv (o_not rfl) ?_; refine nq ?_; refine tc_cond rfl (fun h => ?_) (fun h => ?_)
      · try simp only [lv1, lv2, lv3, lv4, lv5, lv6, Bool.not_true, Bool.not_false] at h
        refine sr ?_; refine tla ?_; refine nq ?_; refine tc_ret ?_; refine q_then_r ?_; exact ⟨.int .i64 6, C (Dev d s), res1 rfl rfl, hAC, 6, s, by unfold rangeP; rw [if_neg (by rw [ho]; decide), if_neg (by omega), if_pos (fun e => by rw [insB_rdy.2 e] at h; cases h)], rfl, rfl⟩
      · have hr : rdy s.ls.length false p m = 0 := insB_rdy.1 (by simpa using h)
        have hr2 := rdy0 hr
        obtain ⟨q, rfl⟩ := Int.eq_ofNat_of_zero_le hr2.2.1
        obtain ⟨k, rfl⟩ := Int.eq_ofNat_of_zero_le hr2.2.2.1
        refine tc_skip ?_; refine q_then_n ?_; refine sr ?_; refine tlm ?_; refine tlm ?_; refine tlm ?_; refine tl_c rfl (o_call bd76 rfl (Rg.last_c (s := s) (p := q) (m := k))) ?_; rintro _ _ ⟨e23, s23, hs23, rfl, rfl⟩; refine tla ?_; refine nq ?_; refine tc_ret ?_; exact ⟨.int .i64 e23, C (Dev d s23), res1 rfl rfl, fun _ _ h => by rw [hC]; exact h, e23, s23, by unfold rangeP; rw [if_neg (by rw [ho]; decide), if_neg (by omega), if_neg (by simpa using hr)]; exact hs23, rfl, rfl⟩
theorem Publish_c {A R : SP} {C : SP → SP} {d : Nat} {s : DevS} (hc : Ct A (Dev d s) R C := by repeat (first | with_reducible exact ct_here | apply ct_left)) {v : Nat} {p : Int} (hp : -9223372036854775808 ≤ p ∧ p ≤ 9223372036854775807 := by omega) (hv : v < 18446744073709551616 := by omega) (hroom : Room 1 s := by assumption) :
    Fn Try.prog 57 #[.pointer (some ⟨d, 0, none⟩), .int .i64 p, .int .u64 (v : Nat)] (A) (fun r B => ∃ e s2, pubP p v s = (e, s2) ∧ r = .int .i64 e ∧ B = C (Dev d s2)) := by
  refine fn_enterW (args := [.pointer (some ⟨d, 0, none⟩), .int .i64 p, .int .u64 (v : Nat)]) Try.func57 rfl Try.ntmps57 (by simp) ?_; refine tc_have (fun _ _ h => ct_wf2 hc h) fun hw => ?_
  obtain ⟨rfl, hC⟩ := hc
  have htop := hw.top
  have hpos := hw.pos
  have hAC : ∀ g w, sat g w (R * Dev d s) → sat g w (C (Dev d s)) := fun g w h => by rw [hC]; exact h
  refine sr ?_; refine tla ?_; refine nq ?_; refine tc_seq ?_; refine sr ?_; refine tlm ?_; refine tlm ?_; refine tlm ?_; refine tl_c rfl (o_call bd77 rfl (Store8_c (s := s) (p := p) (v := v))) ?_; rintro _ _ ⟨e11, s11, hs11, rfl, rfl⟩; refine tla ?_; refine nq ?_; refine sr ?_; refine tlm ?_; refine tv (o_nei rfl rfl) ?_; refine nq ?_; refine tc_cond rfl (fun h => ?_) (fun h => ?_)
  · try simp only [lv1, lv2, lv3, lv4, lv5, lv6, Bool.not_true, Bool.not_false] at h
    refine sr ?_; refine tlm ?_; refine tla ?_; refine nq ?_; refine tc_ret ?_; refine q_then_r ?_; exact ⟨.int .i64 e11, C (Dev d s11), res1 rfl rfl, fun _ _ h => by rw [hC]; exact h, e11, s11, by unfold pubP; rw [hs11, if_pos (by simpa using h)], rfl, rfl⟩
  · obtain rfl : e11 = 0 := by simpa using h
    have hrd := rdy0 (st8_rdy (by rw [hs11]))
    have hsl := st8_len p v s
    rw [hs11] at hsl
    simp only at hsl
    obtain ⟨q, rfl⟩ := Int.eq_ofNat_of_zero_le hrd.2.1
    refine tc_skip ?_; refine q_then_n ?_; refine sr ?_; refine tlm ?_; refine tlm ?_; refine tl_c rfl (o_call bd76 rfl (Rg.last_c (s := s11) (p := q) (m := 8))) ?_; rintro _ _ ⟨e17, s17, hs17, rfl, rfl⟩; refine tla ?_; refine nq ?_; refine tc_ret ?_; exact ⟨.int .i64 e17, C (Dev d s17), res1 rfl rfl, fun _ _ h => by rw [hC]; exact h, e17, s17, by unfold pubP; rw [hs11, if_neg (by simp)]; exact hs17, rfl, rfl⟩
end Go.Vl

set_option linter.unusedVariables false
set_option linter.unusedSimpArgs false
namespace Go.Vl
open Go Go.Proofs
/-- v is no device: nil, or one that no call has made. -/
def NoD (A : SP) (v : Value) : Prop := v = .pointer none ∨ ∃ b, v = .pointer (some ⟨b, 0, none⟩) ∧ Cell A b 0 (.slice none 0 0)
theorem NoD.left {A X : SP} {v : Value} (h : NoD A v) : NoD (A * X) v := h.imp id fun ⟨b, e, hc⟩ => ⟨b, e, hc.left⟩
end Go.Vl

set_option linter.unusedVariables false
set_option linter.unusedSimpArgs false
namespace Go.Vl
open Go Go.Proofs
theorem img_lt {s : DevS} : ∀ x ∈ imgS s, x < 256 := fun x hx => by
  unfold imgS img at hx
  obtain ⟨l, _, h⟩ := List.mem_flatMap.1 hx
  unfold lb at h
  obtain ⟨v, _, h⟩ := List.mem_flatMap.1 h
  exact le_bytes _ _ _ h
theorem imgS_len {s : DevS} (hw : WfD s) : (imgS s).length = s.ls.length * 64 := img_length hw.line
theorem img_sub {s : DevS} {p n : Nat} : ∀ x ∈ ((imgS s).drop p).take n, x < 256 := fun x hx => img_lt x (List.mem_of_mem_drop (List.mem_of_mem_take hx))
theorem nm_take0 (xs : List Nat) (n : Nat) : nm (((xs.take n).drop 0).take n) = nm (xs.take n) := by rw [List.drop_zero, List.take_take, Nat.min_self]
attribute [local irreducible] Sl pt ro Dev imgS
set_option maxRecDepth 20000 in
set_option maxHeartbeats 1000000 in
theorem FL64_ok {A R : SP} {C : SP → SP} {d : Nat} {s : DevS} (hc : Ct A (Dev d s) R C := by repeat (first | with_reducible exact ct_here | apply ct_left)) {p : Nat} (hoff : s.off = false) (hpm : p + 8 ≤ s.ls.length * 64) :
    Fn Try.prog 73 #[.agg [Value.int .i64 (p : Nat)].toArray, .pointer (some ⟨d, 0, none⟩)] (A) (fun r B => r = .tuple #[.int .u64 ((nm (((imgS s).drop p).take 8) : Nat) : Int), .int .i64 0] ∧ A = B) := by
  refine fn_enterW (args := [.agg [Value.int .i64 (p : Nat)].toArray, .pointer (some ⟨d, 0, none⟩)]) Try.func73 rfl Try.ntmps73 (by simp) ?_; refine tc_have (fun _ _ h => ct_wf2 hc h) fun hw => ?_
  obtain ⟨rfl, hC⟩ := hc
  have htop := hw.top
  have hil : (imgS s).length = s.ls.length * 64 := imgS_len hw
  have hI : (((imgS s).drop p).take 8).length = 8 := by rw [List.length_take, List.length_drop]; omega
  have hIb := img_sub (s := s) (p := p) (n := 8)
  refine sr ?_; refine tl_x rfl (o_box rfl rfl) ?_; rintro _ _ ⟨b2, rfl, rfl⟩; refine tla ?_; refine tla ?_; refine nq ?_; refine sr ?_; refine tla ?_; refine nq ?_; refine tc_seq ?_; refine tc_regh mo dr_refl ?_
  show TH _ _ _ _ _ 12 #[ff,ff,ff,ff,ff,ff,ff,ff,ff,ff,ff,ff] _ _
  refine th_take (i := 0) (listed' := #[tt,ff,ff,ff,ff,ff,ff,ff,ff,ff,ff,ff]) rfl (by kernel_rfl) (by kernel_rfl) (by kernel_rfl) rfl rfl (o_move (by conv => lhs; whnf)) ?_; refine th_take (i := 1) (listed' := #[tt,tt,ff,ff,ff,ff,ff,ff,ff,ff,ff,ff]) rfl (by kernel_rfl) (by kernel_rfl) (by kernel_rfl) rfl rfl (o_fieldAddr (o := 0) Try.underlying135 rfl rfl sz3 rfl) ?_; refine th_take (i := 2) (listed' := #[tt,tt,tt,ff,ff,ff,ff,ff,ff,ff,ff,ff]) rfl (by kernel_rfl) (by kernel_rfl) (by kernel_rfl) rfl rfl (by first | exact o_load p3 rfl (by repeat (first | with_reducible exact has_here | with_reducible exact has_pt | apply has_left)) rfl | exact o_loadC p3 rfl (by assumption)) ?_; refine th_take (i := 3) (listed' := #[tt,tt,tt,tt,ff,ff,ff,ff,ff,ff,ff,ff]) rfl (by kernel_rfl) (by kernel_rfl) (by kernel_rfl) rfl rfl (o_move (by conv => lhs; whnf)) ?_; refine th_one (i := 4) (by kernel_rfl) ?_; refine oh_c (i := 4) (listed' := #[tt,tt,tt,tt,tt,ff,ff,ff,ff,ff,ff,ff]) rfl rfl rfl (o_call bd69 rfl (Put64_c (xs := []) (v := 0))) ?_; rintro _ _ ⟨a14, c14, rfl, hc14, rfl⟩; refine ⟨by repeat (first | with_reducible exact dr_refl | apply dr_keep | apply dr_drop), ?_⟩; refine th_take (i := 5) (listed' := #[tt,tt,tt,tt,tt,tt,ff,ff,ff,ff,ff,ff]) rfl (by kernel_rfl) (by kernel_rfl) (by kernel_rfl) rfl rfl (o_len Try.underlying60 rfl) ?_; refine th_one (i := 6) (by kernel_rfl) ?_; refine oh_c (i := 6) (listed' := #[tt,tt,tt,tt,tt,tt,tt,ff,ff,ff,ff,ff]) rfl rfl rfl (o_call bd48 rfl (Load_c (s := s) (p := p) (m := 8))) ?_
  rintro _ _ ⟨a16, c16, rfl, hc16, rfl⟩; refine ⟨by repeat (first | with_reducible exact dr_refl | apply dr_keep | apply dr_drop), ?_⟩; refine th_take (i := 7) (listed' := #[tt,tt,tt,tt,tt,tt,tt,tt,ff,ff,ff,ff]) rfl (by kernel_rfl) (by kernel_rfl) (by kernel_rfl) rfl rfl (o_move (by conv => lhs; whnf)) ?_; refine th_take (i := 8) (listed' := #[tt,tt,tt,tt,tt,tt,tt,tt,tt,ff,ff,ff]) rfl (by kernel_rfl) (by kernel_rfl) (by kernel_rfl) rfl rfl (o_extract rfl rfl) ?_; refine th_take (i := 9) (listed' := #[tt,tt,tt,tt,tt,tt,tt,tt,tt,tt,ff,ff]) rfl (by kernel_rfl) (by kernel_rfl) (by kernel_rfl) rfl rfl (o_extract rfl rfl) ?_; refine th_take (i := 10) (listed' := #[tt,tt,tt,tt,tt,tt,tt,tt,tt,tt,tt,ff]) rfl (by kernel_rfl) (by kernel_rfl) (by kernel_rfl) rfl rfl (o_assign (by conv => lhs; whnf)) ?_; refine th_take (i := 11) (listed' := #[tt,tt,tt,tt,tt,tt,tt,tt,tt,tt,tt,tt]) rfl (by kernel_rfl) (by kernel_rfl) (by kernel_rfl) rfl rfl (o_assign (by conv => lhs; whnf)) ?_; refine th_done (by kernel_rfl) ?_; refine q_then_n ?_; refine tc_seq ?_; refine sr ?_; refine tlm ?_; refine tv (o_nei rfl rfl) ?_; refine nq ?_; refine tc_cond rfl (fun h => ?_) (fun h => ?_)
  · exfalso; simp at h
  · try simp only [lv1, lv2, lv3, lv4, lv5, lv6, Bool.not_true, Bool.not_false] at h
    refine tc_skip ?_; refine q_then_n ?_; refine sr ?_; refine tlm ?_; refine tl_c rfl (o_call bd70 rfl (Take64_c (xs := ((imgS s).drop p).take 8) (p := 0) (hm := hI))) ?_; rintro _ _ ⟨rfl, rfl⟩; refine tv (o_extract rfl rfl) ?_; refine tv (o_extract rfl rfl) ?_; refine tla ?_; refine tla ?_; refine nq ?_; refine tc_ret ?_; exact ⟨.tuple #[.int .u64 ((nm (((imgS s).drop p).take 8) : Nat) : Int), .int .i64 0], R * Dev d s, res2 rfl (congrArg (fun z : Nat => Value.int .u64 (z : Int)) (nm_take0 _ _)) rfl, Dr.sat (by repeat (first | with_reducible exact dr_refl | apply dr_keep | apply dr_drop)), rfl, rfl⟩
set_option maxRecDepth 20000 in
set_option maxHeartbeats 1000000 in
theorem FL64_no {A R : SP} {C : SP → SP} {d : Nat} {s : DevS} (hc : Ct A (Dev d s) R C := by repeat (first | with_reducible exact ct_here | apply ct_left)) {p : Int} (hp : -9223372036854775808 ≤ p ∧ p ≤ 9223372036854775807 := by omega) (hno : rdy s.ls.length s.off p 8 ≠ 0) :
    Fn Try.prog 73 #[.agg [Value.int .i64 p].toArray, .pointer (some ⟨d, 0, none⟩)] (A) (fun r B => r = .tuple #[.int .u64 0, .int .i64 (rdy s.ls.length s.off p 8)] ∧ A = B) := by
  refine fn_enterW (args := [.agg [Value.int .i64 p].toArray, .pointer (some ⟨d, 0, none⟩)]) Try.func73 rfl Try.ntmps73 (by simp) ?_
  obtain ⟨rfl, hC⟩ := hc
  refine sr ?_; refine tl_x rfl (o_box rfl rfl) ?_; rintro _ _ ⟨b2, rfl, rfl⟩; refine tla ?_; refine tla ?_; refine nq ?_; refine sr ?_; refine tla ?_; refine nq ?_; refine tc_seq ?_; refine tc_regh mo dr_refl ?_
  show TH _ _ _ _ _ 12 #[ff,ff,ff,ff,ff,ff,ff,ff,ff,ff,ff,ff] _ _
  refine th_take (i := 0) (listed' := #[tt,ff,ff,ff,ff,ff,ff,ff,ff,ff,ff,ff]) rfl (by kernel_rfl) (by kernel_rfl) (by kernel_rfl) rfl rfl (o_move (by conv => lhs; whnf)) ?_; refine th_take (i := 1) (listed' := #[tt,tt,ff,ff,ff,ff,ff,ff,ff,ff,ff,ff]) rfl (by kernel_rfl) (by kernel_rfl) (by kernel_rfl) rfl rfl (o_fieldAddr (o := 0) Try.underlying135 rfl rfl sz3 rfl) ?_; refine th_take (i := 2) (listed' := #[tt,tt,tt,ff,ff,ff,ff,ff,ff,ff,ff,ff]) rfl (by kernel_rfl) (by kernel_rfl) (by kernel_rfl) rfl rfl (by first | exact o_load p3 rfl (by repeat (first | with_reducible exact has_here | with_reducible exact has_pt | apply has_left)) rfl | exact o_loadC p3 rfl (by assumption)) ?_; refine th_take (i := 3) (listed' := #[tt,tt,tt,tt,ff,ff,ff,ff,ff,ff,ff,ff]) rfl (by kernel_rfl) (by kernel_rfl) (by kernel_rfl) rfl rfl (o_move (by conv => lhs; whnf)) ?_; refine th_one (i := 4) (by kernel_rfl) ?_; refine oh_c (i := 4) (listed' := #[tt,tt,tt,tt,tt,ff,ff,ff,ff,ff,ff,ff]) rfl rfl rfl (o_call bd69 rfl (Put64_c (xs := []) (v := 0))) ?_; rintro _ _ ⟨a14, c14, rfl, hc14, rfl⟩; refine ⟨by repeat (first | with_reducible exact dr_refl | apply dr_keep | apply dr_drop), ?_⟩; refine th_take (i := 5) (listed' := #[tt,tt,tt,tt,tt,tt,ff,ff,ff,ff,ff,ff]) rfl (by kernel_rfl) (by kernel_rfl) (by kernel_rfl) rfl rfl (o_len Try.underlying60 rfl) ?_; refine th_one (i := 6) (by kernel_rfl) ?_; refine oh_c (i := 6) (listed' := #[tt,tt,tt,tt,tt,tt,tt,ff,ff,ff,ff,ff]) rfl rfl rfl (o_call bd48 rfl (LoadNo_c (s := s) (p := p) (m := 8))) ?_
  rintro _ _ ⟨rfl, rfl⟩; refine ⟨by repeat (first | with_reducible exact dr_refl | apply dr_keep | apply dr_drop), ?_⟩; refine th_take (i := 7) (listed' := #[tt,tt,tt,tt,tt,tt,tt,tt,ff,ff,ff,ff]) rfl (by kernel_rfl) (by kernel_rfl) (by kernel_rfl) rfl rfl (o_move (by conv => lhs; whnf)) ?_; refine th_take (i := 8) (listed' := #[tt,tt,tt,tt,tt,tt,tt,tt,tt,ff,ff,ff]) rfl (by kernel_rfl) (by kernel_rfl) (by kernel_rfl) rfl rfl (o_extract rfl rfl) ?_; refine th_take (i := 9) (listed' := #[tt,tt,tt,tt,tt,tt,tt,tt,tt,tt,ff,ff]) rfl (by kernel_rfl) (by kernel_rfl) (by kernel_rfl) rfl rfl (o_extract rfl rfl) ?_; refine th_take (i := 10) (listed' := #[tt,tt,tt,tt,tt,tt,tt,tt,tt,tt,tt,ff]) rfl (by kernel_rfl) (by kernel_rfl) (by kernel_rfl) rfl rfl (o_assign (by conv => lhs; whnf)) ?_; refine th_take (i := 11) (listed' := #[tt,tt,tt,tt,tt,tt,tt,tt,tt,tt,tt,tt]) rfl (by kernel_rfl) (by kernel_rfl) (by kernel_rfl) rfl rfl (o_assign (by conv => lhs; whnf)) ?_; refine th_done (by kernel_rfl) ?_; refine q_then_n ?_; refine tc_seq ?_; refine sr ?_; refine tlm ?_; refine tv (o_nei rfl rfl) ?_; refine nq ?_; refine tc_cond rfl (fun h => ?_) (fun h => ?_)
  · try simp only [lv1, lv2, lv3, lv4, lv5, lv6, Bool.not_true, Bool.not_false] at h
    refine sr ?_; refine tlm ?_; refine tla ?_; refine tla ?_; refine nq ?_; refine tc_ret ?_; refine q_then_r ?_; exact ⟨.tuple #[.int .u64 0, .int .i64 (rdy s.ls.length s.off p 8)], R * Dev d s, res2 rfl rfl rfl, Dr.sat (by repeat (first | with_reducible exact dr_refl | apply dr_keep | apply dr_drop)), rfl, rfl⟩
  · exfalso; exact hno (by simpa using h)
theorem FL64_c {A R : SP} {C : SP → SP} {d : Nat} {s : DevS} (hc : Ct A (Dev d s) R C := by repeat (first | with_reducible exact ct_here | apply ct_left)) {p : Int} (hp : -9223372036854775808 ≤ p ∧ p ≤ 9223372036854775807 := by omega) : Fn Try.prog 73 #[.agg [Value.int .i64 p].toArray, .pointer (some ⟨d, 0, none⟩)] A (fun r B => r = .tuple #[.int .u64 (((loadP p 8 s).1 : Nat) : Int), .int .i64 (loadP p 8 s).2] ∧ A = B) := by
  by_cases h : rdy s.ls.length s.off p 8 = 0
  · have h0 := rdy0 h
    obtain ⟨q, rfl⟩ := Int.eq_ofNat_of_zero_le h0.2.1
    have e : loadP (q : Int) 8 s = (nm (((imgS s).drop q).take 8), 0) := by unfold loadP; rw [if_neg (by simpa using h)]; rfl
    rw [e]; exact FL64_ok hc h0.1 (by omega)
  · have e : loadP p 8 s = (0, rdy s.ls.length s.off p 8) := by unfold loadP; rw [if_pos (by simpa using h)]; rfl
    rw [e]; exact FL64_no hc hp (by simpa using h)
set_option maxRecDepth 20000 in
set_option maxHeartbeats 1000000 in
theorem Word_c {A R : SP} {C : SP → SP} {d : Nat} {s : DevS} (hc : Ct A (Dev d s) R C := by repeat (first | with_reducible exact ct_here | apply ct_left)) {p : Int} (hp : -9223372036854775808 ≤ p ∧ p ≤ 9223372036854775807 := by omega) :
    Fn Try.prog 53 #[.pointer (some ⟨d, 0, none⟩), .int .i64 p] (A) (fun r B => r = .tuple #[.int .u64 (((wordP p s).1 : Nat) : Int), .int .i64 (wordP p s).2] ∧ A = B) := by
  refine fn_enterW (args := [.pointer (some ⟨d, 0, none⟩), .int .i64 p]) Try.func53 rfl Try.ntmps53 (by simp) ?_; refine sr ?_; refine tla ?_; refine tla ?_; refine nq ?_; refine tc_seq ?_; refine sr ?_; refine tlm ?_; refine tl_c rfl (o_call bd72 rfl (alive_c hc)) ?_; rintro _ _ ⟨rfl, rfl⟩; refine tla ?_; refine nq ?_; refine sr ?_; refine tlm ?_; refine tv (o_nei rfl rfl) ?_; refine nq ?_; refine tc_cond rfl (fun h => ?_) (fun h => ?_)
  · try simp only [lv1, lv2, lv3, lv4, lv5, lv6, Bool.not_true, Bool.not_false] at h
    refine sr ?_; refine tlm ?_; refine tla ?_; refine tla ?_; refine nq ?_; refine tc_ret ?_; refine q_then_r ?_
    have ho := stE_off h
    have e : wordP p s = (0, 5) := by unfold wordP; rw [if_pos ho]
    have e2 : stE s = 5 := by unfold stE; rw [if_pos ho]
    rw [e]
    exact ⟨.tuple #[.int .u64 0, .int .i64 5], A, res2 rfl rfl (congrArg (Value.int .i64) e2), fun _ _ h => h, rfl, rfl⟩
  · have ho : s.off = false := stE_on (by simpa using h)
    refine tc_skip ?_; refine q_then_n ?_; refine tc_seq ?_; refine sr ?_; refine tlm ?_; refine tv (o_rem rfl rfl (by decide)) ?_; refine tv (o_nei rfl rfl) ?_; refine nq ?_; refine tc_cond rfl (fun h => ?_) (fun h => ?_)
    · try simp only [lv1, lv2, lv3, lv4, lv5, lv6, Bool.not_true, Bool.not_false] at h
      refine sr ?_; refine tla ?_; refine tla ?_; refine nq ?_; refine tc_ret ?_; refine q_then_r ?_
      have e : wordP p s = (0, 6) := by unfold wordP; rw [if_neg (by rw [ho]; decide), if_pos (fun e => h (by rw [Int.tmod_eq_zero_of_dvd (Int.dvd_of_emod_eq_zero e)]))]
      rw [e]
      exact ⟨.tuple #[.int .u64 0, .int .i64 6], A, res2 rfl rfl rfl, fun _ _ h => h, rfl, rfl⟩
    · try simp only [lv1, lv2, lv3, lv4, lv5, lv6, Bool.not_true, Bool.not_false] at h
      refine tc_skip ?_; refine q_then_n ?_; refine sr ?_; refine tlm ?_; refine tv (o_bS (l := [Value.int .i64 p]) (pv_cons (by conv => lhs; whnf) pv_nil) Try.underlying135 z135 (pl135 Try.underlying135) rfl) ?_; refine tlm ?_; refine tl_c rfl (o_call bd73 rfl (FL64_c hc (p := p))) ?_; rintro _ _ ⟨rfl, rfl⟩; refine tv (o_extract rfl rfl) ?_; refine tv (o_extract rfl rfl) ?_; refine tla ?_; refine tla ?_; refine nq ?_; refine tc_ret ?_
      have e : wordP p s = loadP p 8 s := by unfold wordP; rw [if_neg (by rw [ho]; decide), if_neg (fun e => e (Int.emod_eq_zero_of_dvd (Int.dvd_of_tmod_eq_zero (by simpa using h))))]
      rw [e]
      exact ⟨_, A, res2 rfl rfl rfl, Dr.sat (by repeat (first | with_reducible exact dr_refl | apply dr_keep | apply dr_drop)), rfl, rfl⟩
end Go.Vl

set_option linter.unusedVariables false
set_option linter.unusedSimpArgs false
namespace Go.Vl
open Go Go.Proofs
theorem lb_word {s : List Nat} {r : Nat} (h : r < s.length) (t : List Nat) : (((lb s ++ t).drop (8 * r)).take 8) = le 8 s[r] := by
  induction s generalizing r with
  | nil => simp at h
  | cons x s ih =>
    cases r with
    | zero =>
      show (((le 8 x ++ lb s) ++ t).drop 0).take 8 = le 8 x
      rw [List.drop_zero, List.append_assoc, List.take_append_of_le_length (by rw [le_length]; omega), List.take_of_length_le (by rw [le_length]; omega)]
    | succ r =>
      have e : 8 * (r + 1) = (le 8 x).length + 8 * r := by rw [le_length]; omega
      show (((le 8 x ++ lb s) ++ t).drop _).take 8 = _
      rw [e, List.append_assoc, ← List.drop_drop, List.drop_left]
      exact ih (by simpa using h)
theorem seenL_app (l : LineS) (σ : List Nat) : seenL { l with st := l.st ++ [σ] } = σ := by
  unfold seenL; simp [List.getD]
end Go.Vl

set_option linter.unusedVariables false
set_option linter.unusedSimpArgs false
namespace Go.Vl
open Go Go.Proofs
theorem spl_in {α : Type} {l b : List α} {q r k : Nat} (h1 : r + b.length ≤ k) (h2 : q + k ≤ l.length) : spl l q (spl ((l.drop q).take k) r b) = spl l (q + r) b := by
  have h3 : ((l.drop q).take k).length = k := by rw [List.length_take, List.length_drop]; omega
  apply List.ext_getElem?
  intro i
  rw [spl_at (by rw [spl_length (by omega)]; omega), spl_at (by omega), spl_length (by omega), h3]
  by_cases h : q ≤ i ∧ i < q + k
  · rw [if_pos h, spl_at (by omega)]
    by_cases h' : r ≤ i - q ∧ i - q < r + b.length
    · rw [if_pos h', if_pos (by omega)]; congr 1; omega
    · rw [if_neg h', if_neg (by omega), List.getElem?_take, if_pos (by omega), List.getElem?_drop]; congr 1; omega
  · rw [if_neg h, spl_at (by omega), if_neg (by omega)]
theorem spl_app {α : Type} (a l b : List α) {n p q : Nat} (ha : a.length = n) (hq : q = n + p) : spl (a ++ l) q b = a ++ spl l p b := by
  subst ha hq
  unfold spl
  rw [List.take_length_add_append, Nat.add_assoc, List.drop_length_add_append]
  simp only [List.append_assoc]
theorem spl_head {α : Type} (a l b : List α) (h : a.length = b.length) : spl (a ++ l) 0 b = b ++ l := by
  unfold spl
  rw [List.take_zero, List.nil_append, Nat.zero_add, ← h, List.drop_left]
theorem lb_set : ∀ {s : List Nat} {k v : Nat}, k < s.length → lb (s.set k v) = spl (lb s) (8 * k) (le 8 v)
  | x :: s, 0, v, _ => (spl_head (le 8 x) (lb s) (le 8 v) (by rw [le_length, le_length])).symm
  | x :: s, k + 1, v, h => by
    have ih := lb_set (s := s) (k := k) (v := v) (by simpa using h)
    show le 8 x ++ lb (s.set k v) = _
    rw [ih]
    exact (spl_app (le 8 x) (lb s) (le 8 v) (le_length 8 x) (by omega)).symm
theorem img_set : ∀ {ls : List LineS} {i : Nat} {l : LineS} (_ : ∀ l ∈ ls, WfL l) (_ : i < ls.length) (_ : (lb (seenL l)).length = 64), img (ls.set i l) = spl (img ls) (i * 64) (lb (seenL l))
  | l0 :: ls, 0, l, h, _, h8 => by
    have h0 := seen8 (h l0 (by simp))
    exact (by rw [Nat.zero_mul]; exact (spl_head (lb (seenL l0)) (img ls) (lb (seenL l)) (by rw [h0, h8])).symm)
  | l0 :: ls, i + 1, l, h, hi, h8 => by
    have h0 := seen8 (h l0 (by simp))
    have ih := img_set (i := i) (l := l) (fun x hx => h x (List.mem_cons_of_mem _ hx)) (by simpa using hi) h8
    show lb (seenL l0) ++ img (ls.set i l) = _
    rw [ih]
    exact (spl_app (lb (seenL l0)) (img ls) (lb (seenL l)) h0 (by omega)).symm
theorem img_lay {s : DevS} {q v : Nat} (hw : WfD s) (hq : q % 8 = 0) (hi : q / 64 < s.ls.length) (hv : v < 18446744073709551616) (hr : Room 1 s) : imgS (layS q v s) = spl (imgS s) q (le 8 v) := by
  have hwl := hw.line _ (List.getElem_mem hi)
  have h8 := hwl.eight _ (seenL_mem hwl)
  have hl := img_length hw.line
  have hs8 := seen8 hwl
  have e1 : (layS q v s).ls = s.ls.set (q / 64) (layL (q % 64 / 8) v s.ls[q / 64]) := by unfold layS; rw [onLine_at hi]
  have e2 : seenL (layL (q % 64 / 8) v s.ls[q / 64]) = (seenL s.ls[q / 64]).set (q % 64 / 8) v := by unfold layL; rw [seenL_app]
  have e3 : lb ((seenL s.ls[q / 64]).set (q % 64 / 8) v) = spl (lb (seenL s.ls[q / 64])) (q % 64) (le 8 v) := by
    rw [lb_set (by omega)]; congr 1; omega
  have e4 : ((imgS s).drop (q / 64 * 64)).take 64 = lb (seenL s.ls[q / 64]) := by unfold imgS; rw [img_at hw.line hi, List.take_append_of_le_length (by omega), List.take_of_length_le (by omega)]
  unfold imgS at e4 ⊢
  rw [e1, img_set hw.line hi (by rw [e2, e3, spl_length (by rw [le_length]; omega), hs8]), e2, e3, ← e4, spl_in (by rw [le_length]; omega) (by omega)]
  congr 1; omega
theorem word_at {s : DevS} {p : Nat} (hw : WfD s) (hi : p / 64 < s.ls.length) : le 8 ((seenL (s.ls.getD (p / 64) zline)).getD (p % 64 / 8) 0) = ((imgS s).drop (p - p % 8)).take 8 := by
  have hwl := hw.line _ (List.getElem_mem hi)
  have h8 := hwl.eight _ (seenL_mem hwl)
  have hs8 := seen8 hwl
  have hc := img_chunk (q := p - p % 8) (c := 8) hw.line (by rw [show (p - p % 8) / 64 = p / 64 by omega]; exact hi) (by omega)
  unfold imgS
  rw [← hc, seenL_getD hi]
  have e : (p - p % 8) / 64 = p / 64 := by omega
  simp only [e]
  have h2 := lb_word (s := seenL s.ls[p / 64]) (r := p % 64 / 8) (by omega) []
  rw [List.append_nil] at h2
  have e2 : (p - p % 8) % 64 = 8 * (p % 64 / 8) := by omega
  rw [e2, h2]
  congr 1
  simp [List.getD, show p % 64 / 8 < (seenL s.ls[p / 64]).length by omega]
theorem img_stW {s : DevS} {p : Nat} {b : List Nat} (hw : WfD s) (hi : p / 64 < s.ls.length) (hb : ∀ x ∈ b, x < 256) (hr : Room 1 s) : imgS (layS (p - p % 8) (nm (stW p b s)) s) = spl (imgS s) p (b.take (8 - p % 8)) := by
  have hl := img_length hw.line
  have e8 : le 8 (nm (stW p b s)) = stW p b s := by have := le_nm _ (stW_bytes (p := p) (s := s) hb); rw [stW_len] at this; exact this
  rw [img_lay hw (by omega) (by rw [show (p - p % 8) / 64 = p / 64 by omega]; exact hi) (stW_nm hb) hr, e8]
  unfold stW
  rw [word_at hw hi, spl_in (by rw [List.length_take]; omega) (by unfold imgS; omega)]
  congr 1; omega
/-- How many words bytes touch. -/
def cw (p m : Nat) : Nat := if m = 0 then 0 else (p + m - 1) / 8 - p / 8 + 1
theorem spl_nil {α : Type} (l : List α) (p : Nat) : spl l p [] = l := by simp [spl]
/-- The image that the statement begins with. -/
def im (n : Nat) : List Nat := (List.range n).map fun i => (i + 1) % 256
theorem lineF_lb {xs : List Nat} (hb : ∀ x ∈ xs, x < 256) {i : Nat} (hi : i * 64 + 64 ≤ xs.length) : lb (seenL (lineF xs i)) = (xs.drop (i * 64)).take 64 := by
  have e : seenL (lineF xs i) = (List.replicate 8 0).mapIdx fun k _ => wordF xs i k := by simp [seenL, lineF]
  rw [e]
  have key : ∀ k, k ≤ 8 → lb (((List.replicate 8 0).mapIdx fun k _ => wordF xs i k).take k) = (xs.drop (i * 64)).take (k * 8) := by
    intro k
    induction k with
    | zero => intro _; simp [lb]
    | succ k ih =>
      intro hk
      rw [lb_take (by simp; omega), ih (by omega)]
      simp only [List.getElem_mapIdx, wordF]
      have h1 := le_nm ((xs.drop (i * 64 + k * 8)).take 8) (fun x hx => hb x (List.mem_of_mem_drop (List.mem_of_mem_take hx)))
      rw [List.length_take, List.length_drop, Nat.min_eq_left (by omega)] at h1
      rw [h1, show (k + 1) * 8 = k * 8 + 8 by omega, List.take_add, List.drop_drop]
  have := key 8 (by omega)
  rwa [List.take_of_length_le (by simp)] at this
theorem img_from {n : Nat} {xs : List Nat} (hb : ∀ x ∈ xs, x < 256) (hl : xs.length = n * 64) : imgS (fromS n xs) = xs := by
  have e : imgS (fromS n xs) = ((List.range n).map fun i => (xs.drop (i * 64)).take 64).flatten := by
    unfold imgS img fromS
    rw [List.flatMap_def]
    congr 1
    apply List.ext_getElem
    · simp [newS]
    · intro j h1 h2
      simp only [List.length_map, List.length_mapIdx, List.length_range] at h1 h2
      simp only [List.getElem_map, List.getElem_mapIdx, List.getElem_range]
      exact lineF_lb hb (by omega)
  rw [e]
  have key : ∀ k, k ≤ n → ((List.range k).map fun i => (xs.drop (i * 64)).take 64).flatten = xs.take (k * 64) := by
    intro k
    induction k with
    | zero => intro _; simp
    | succ k ih =>
      intro hk
      rw [List.range_succ, List.map_append, List.flatten_append, ih (by omega)]
      simp only [List.map_cons, List.map_nil, List.flatten_cons, List.flatten_nil, List.append_nil]
      rw [show (k + 1) * 64 = k * 64 + 64 by omega, List.take_add]
  rw [key n (Nat.le_refl _), ← hl, List.take_length]
theorem spl_mid {l b : List Nat} {p : Nat} (h : p + b.length ≤ l.length) : ((spl l p b).drop p).take b.length = b := by
  apply List.ext_getElem?
  intro i
  rw [List.getElem?_take]
  split
  · rw [List.getElem?_drop, spl_at h, if_pos (by omega)]; congr 1; omega
  · rw [List.getElem?_eq_none (by omega)]
end Go.Vl

set_option linter.unusedVariables false
set_option linter.unusedSimpArgs false
namespace Go.Vl
open Go Go.Proofs
/-! ### What all contents of the lines of a range have in common -/
/-- All contents of all lines have the bytes c from at_ on. -/
def Ag (at_ : Nat) (c : List Nat) (s : DevS) : Prop := ∀ x, x < c.length → ∀ l, s.ls[(at_ + x) / 64]? = some l → ∀ σ ∈ l.st, (lb σ)[(at_ + x) % 64]? = c[x]?
def AgI (at_ : Nat) (c : List Nat) (I : List Nat) : Prop := ∀ x, x < c.length → I[at_ + x]? = c[x]?
theorem layS_ls {q v : Nat} {s : DevS} (hi : q / 64 < s.ls.length) : (layS q v s).ls = s.ls.set (q / 64) (layL (q % 64 / 8) v s.ls[q / 64]) := by unfold layS; rw [onLine_at hi]
/-! ### Lines are flushed -/
theorem img_seen {ls ls' : List LineS} (h : ls'.map seenL = ls.map seenL) : img ls' = img ls := by
  have e : ∀ l : List LineS, img l = (l.map seenL).flatMap lb := fun l => by unfold img; rw [List.flatMap_map]
  rw [e, e, h]
theorem seen_fence {l : LineS} (h : WfL l) : seenL (fenceL l) = seenL l := by
  unfold fenceL
  split
  · have h1 := h.hi
    have h2 := List.length_pos_iff.2 h.ne
    rw [seenL_eq h2, seenL_eq (by simp; omega)]
    simp only [List.getElem_drop, List.length_drop]
    congr 1; omega
  · rfl
theorem fence_mem {l : LineS} : ∀ σ ∈ (fenceL l).st, σ ∈ l.st := fun σ h => by
  unfold fenceL at h
  split at h
  · exact List.mem_of_mem_drop h
  · exact h
/-- Lines from q on, k of them, flushed. -/
def flsh (k q : Nat) (ls : List LineS) : List LineS := ls.mapIdx fun i l => if q ≤ i ∧ i < q + k then flushL l else l
theorem flsh_len (k q : Nat) (ls : List LineS) : (flsh k q ls).length = ls.length := by simp [flsh]
theorem flsh_zero (q : Nat) (ls : List LineS) : flsh 0 q ls = ls := by
  apply List.ext_getElem?
  intro j
  simp only [flsh, List.getElem?_mapIdx]
  cases ls[j]? with
  | none => rfl
  | some l => simp only [Option.map_some]; rw [if_neg (by omega)]
theorem flsh_step {k q : Nat} {ls : List LineS} (h : q < ls.length) : flsh k (q + 1) (ls.set q (flushL ls[q])) = flsh (k + 1) q ls := by
  apply List.ext_getElem?
  intro j
  simp only [flsh, List.getElem?_mapIdx]
  by_cases e : q = j
  · subst e
    rw [List.getElem?_set_self h, List.getElem?_eq_getElem h]
    simp only [Option.map_some]; rw [if_neg (by omega), if_pos (by omega)]
  · rw [List.getElem?_set_ne e]
    cases ls[j]? with
    | none => rfl
    | some l =>
      simp only [Option.map_some]
      by_cases h2 : q + 1 ≤ j ∧ j < q + 1 + k
      · rw [if_pos h2, if_pos (by omega)]
      · rw [if_neg h2, if_neg (by omega)]
theorem flsh_seen (k q : Nat) (ls : List LineS) : (flsh k q ls).map seenL = ls.map seenL := by
  apply List.ext_getElem?
  intro j
  simp only [flsh, List.getElem?_map, List.getElem?_mapIdx]
  cases ls[j]? with
  | none => rfl
  | some l => simp only [Option.map_some]; split <;> rfl
theorem flsh_get {k q j : Nat} {ls : List LineS} {l' : LineS} (h : (flsh k q ls)[j]? = some l') : ∃ l, ls[j]? = some l ∧ l' = if q ≤ j ∧ j < q + k then flushL l else l := by
  simp only [flsh, List.getElem?_mapIdx] at h
  cases e : ls[j]? with
  | none => rw [e] at h; cases h
  | some l => rw [e] at h; exact ⟨l, rfl, (Option.some.inj h).symm⟩
theorem flsh_wf {k q : Nat} {ls : List LineS} (h : ∀ l ∈ ls, WfL l) : ∀ l ∈ flsh k q ls, WfL l := fun l hl => by
  obtain ⟨j, hj, rfl⟩ := List.mem_iff_getElem.1 hl
  obtain ⟨l0, h1, h2⟩ := flsh_get (List.getElem?_eq_getElem hj)
  rw [h2]
  split
  · exact flushL_wf (h l0 (List.mem_of_getElem? h1))
  · exact h l0 (List.mem_of_getElem? h1)
theorem fence_get {ls : List LineS} {j : Nat} {l' : LineS} (h : (ls.map fenceL)[j]? = some l') : ∃ l, ls[j]? = some l ∧ l' = fenceL l := by
  rw [List.getElem?_map] at h
  cases e : ls[j]? with
  | none => rw [e] at h; cases h
  | some l => rw [e] at h; exact ⟨l, rfl, (Option.some.inj h).symm⟩
end Go.Vl

set_option linter.unusedVariables false
set_option linter.unusedSimpArgs false
namespace Go.Vl
open Go Go.Proofs
/-- Every line has one content alone. -/
def Cln (s : DevS) : Prop := ∀ l ∈ s.ls, l.st.length = 1
def chunk (q : Nat) (I : List Nat) : List Nat := (I.drop (q * 64)).take 64
/-- Every content of every line is as X says. -/
def Poss (X : Nat → List Nat → Prop) (s : DevS) : Prop := ∀ (q : Nat) (l : LineS), s.ls[q]? = some l → ∀ σ ∈ l.st, X q (lb σ)
theorem img_chk {s : DevS} (hw : WfD s) {q : Nat} (hq : q < s.ls.length) : chunk q (imgS s) = lb (seenL s.ls[q]) := by
  have h1 := img_at hw.line hq
  unfold chunk imgS
  rw [h1, ← seen8 (hw.line _ (List.getElem_mem hq)), List.take_left]
theorem poss_img {X : Nat → List Nat → Prop} {s : DevS} (hw : WfD s) (h : Poss X s) {q : Nat} (hq : q < s.ls.length) : X q (chunk q (imgS s)) := by
  rw [img_chk hw hq]; exact h q _ (List.getElem?_eq_getElem hq) _ (seenL_mem (hw.line _ (List.getElem_mem hq)))
theorem poss_sub {X : Nat → List Nat → Prop} {s s' : DevS} (h : Poss X s) (hs : ∀ (q : Nat) (l' : LineS), s'.ls[q]? = some l' → ∃ l : LineS, s.ls[q]? = some l ∧ ∀ σ ∈ l'.st, σ ∈ l.st) : Poss X s' := fun q l' hl' σ hσ => by
  obtain ⟨l, hl, hsub⟩ := hs _ _ hl'
  exact h q l hl σ (hsub σ hσ)
/-- Where each line has one content, that is what is seen. -/
theorem poss_cln {X : Nat → List Nat → Prop} {s : DevS} (hw : WfD s) (hc : Cln s) (h : ∀ q, q < s.ls.length → X q (chunk q (imgS s))) : Poss X s := fun q l hl σ hσ => by
  obtain ⟨hq, rfl⟩ := List.getElem?_eq_some_iff.1 hl
  have := h q hq
  rw [img_chk hw hq] at this
  have h1 := hc _ (List.getElem_mem hq)
  have e : σ = seenL s.ls[q] := by
    rw [seenL_eq (by omega)]
    obtain ⟨k, hk, rfl⟩ := List.mem_iff_getElem.1 hσ
    congr 1; omega
  rw [e]; exact this
theorem goes_sub {kp : List Int} {s : DevS} (hw : WfD s) (q : Nat) (l' : LineS) (hl' : (goesS kp s).ls[q]? = some l') : ∃ l : LineS, s.ls[q]? = some l ∧ (∀ σ ∈ l'.st, σ ∈ l.st) ∧ l'.st.length = 1 := by
  simp only [goesS, goPart, List.getElem?_mapIdx] at hl'
  cases e : s.ls[q]? with
  | none => rw [e] at hl'; cases hl'
  | some l =>
    rw [e] at hl'
    simp only [Option.map_some, Option.some.injEq] at hl'
    have hq := (List.getElem?_eq_some_iff.1 e).1
    subst hl'
    rw [if_pos hq]
    refine ⟨l, rfl, fun σ hσ => ?_, rfl⟩
    have hp : 0 < l.st.length := List.length_pos_iff.2 (hw.line l (List.mem_of_getElem? e)).ne
    have hk := kOf_lt (keep := kp) (i := q) hp
    simp only [goL, List.mem_singleton] at hσ
    rw [hσ]; simp [List.getD, hk]
theorem goes_poss {kp : List Int} {s : DevS} {X : Nat → List Nat → Prop} (hw : WfD s) (h : Poss X s) : Poss X (goesS kp s) := poss_sub h fun q l' hl' => by
  obtain ⟨l, h1, h2, _⟩ := goes_sub hw q l' hl'; exact ⟨l, h1, h2⟩
theorem goes_cln {kp : List Int} {s : DevS} (hw : WfD s) : Cln (goesS kp s) := fun l hl => by
  obtain ⟨q, hq, rfl⟩ := List.mem_iff_getElem.1 hl
  obtain ⟨_, _, _, h⟩ := goes_sub hw q _ (List.getElem?_eq_getElem hq); exact h
/-- The state behind a loss. -/
def Lost (X : Nat → List Nat → Prop) (n : Nat) (s : DevS) : Prop := s.off = true ∧ WfD s ∧ Cln s ∧ Poss X s ∧ s.ls.length = n
theorem done_loss {X : Nat → List Nat → Prop} {s : DevS} (hw : WfD s) (h : Poss X s) : (doneE s = 0 ∧ (doneS s).ls = s.ls ∧ (doneS s).off = s.off) ∨ (doneE s = 5 ∧ Lost X s.ls.length (doneS s)) := by
  have hw' := doneS_wf hw
  have hl := doneS_len s
  unfold Lost doneE doneS at *
  cases e : s.arms with
  | nil => exact .inl ⟨rfl, rfl, rfl⟩
  | cons a ar =>
    simp only [e] at hw' hl ⊢
    by_cases c : wr64 (s.cnt + 1) < a.1
    · rw [if_pos c, if_pos c]; exact .inl ⟨rfl, rfl, rfl⟩
    · rw [if_neg c] at hw' hl
      rw [if_neg c, if_neg c]
      have hw2 : WfD { s with ops := wr64 (s.ops + 1), arms := ar, cnt := 0 } := by
        refine ⟨hw.pos, hw.top, hw.line, ?_, ?_, ?_⟩
        · have := hw.arms; rw [e] at this; simp at this ⊢; omega
        · intro x hx; exact hw.after x (by rw [e]; exact List.mem_cons_of_mem _ hx)
        · intro x hx; exact hw.keeps x (by rw [e]; exact List.mem_cons_of_mem _ hx)
      exact .inr ⟨rfl, rfl, hw', goes_cln hw2, goes_poss hw2 h, hl⟩
theorem chunk_spl {I b : List Nat} {p q : Nat} (hp : p + b.length ≤ I.length) (h : (q + 1) * 64 ≤ p ∨ p + b.length ≤ q * 64) : chunk q (spl I p b) = chunk q I := by
  unfold chunk
  apply List.ext_getElem?
  intro i
  rw [List.getElem?_take, List.getElem?_take]
  by_cases hi : i < 64
  · rw [if_pos hi, if_pos hi, List.getElem?_drop, List.getElem?_drop, spl_at hp, if_neg (by omega)]
  · rw [if_neg hi, if_neg hi]
theorem poss_lay {X : Nat → List Nat → Prop} {s : DevS} {q v : Nat} (h : Poss X s) (hi : q / 64 < s.ls.length) (hw : WfD (layS q v s)) (hX : X (q / 64) (chunk (q / 64) (imgS (layS q v s)))) : Poss X (layS q v s) := fun j l' hl' σ hσ => by
  have hl2 := hl'
  rw [layS_ls hi] at hl'
  by_cases e : j = q / 64
  · subst e
    have hq' : q / 64 < (layS q v s).ls.length := by rw [layS_len']; omega
    rw [img_chk hw hq'] at hX
    have e0 : (layS q v s).ls[q / 64] = l' := by rw [List.getElem?_eq_getElem hq'] at hl2; exact Option.some.inj hl2
    rw [List.getElem?_set_self hi] at hl'
    have e2 := Option.some.inj hl'
    have hσ' : σ ∈ s.ls[q / 64].st ++ [(seenL s.ls[q / 64]).set (q % 64 / 8) v] := by rw [← e2] at hσ; exact hσ
    rcases List.mem_append.1 hσ' with h1 | h1
    · exact h _ _ (List.getElem?_eq_getElem hi) σ h1
    · rw [List.mem_singleton] at h1
      rw [e0, ← e2] at hX
      unfold layL at hX
      rw [seenL_app] at hX
      rw [h1]; exact hX
  · rw [List.getElem?_set_ne (Ne.symm e)] at hl'
    exact h j _ hl' σ hσ
/-- What holds behind a store that went well, seen from before. -/
def Went (X : Nat → List Nat → Prop) (p m : Nat) (s s2 : DevS) : Prop := s2.off = false ∧ WfD s2 ∧ Poss X s2 ∧ s2.ls.length = s.ls.length ∧ ∀ q : Nat, (q + 1) * 64 ≤ p ∨ p + m ≤ q * 64 → s2.ls[q]? = s.ls[q]?
theorem storeF_loss {X : Nat → List Nat → Prop} : ∀ (m : Nat) {p r : Nat} {b : List Nat} {s : DevS}, b.length = m → WfD s → s.off = false → (∀ x ∈ b, x < 256) → Room (r + m) s → p + m ≤ s.ls.length * 64 → Poss X s →
    (∀ k q, 0 < k → k ≤ m → ((p + k) % 8 = 0 ∨ k = m) → q < s.ls.length → X q (chunk q (spl (imgS s) p (b.take k)))) →
    ∃ e s2, storeF b.length p b s = (e, s2) ∧ ((e = 0 ∧ Went X p m s s2 ∧ Room r s2 ∧ imgS s2 = spl (imgS s) p b) ∨ (e = 5 ∧ Lost X s.ls.length s2)) := by
  intro m
  induction m using Nat.strongRecOn with
  | _ m ih =>
    intro p r b s hm hw hO hb hroom hp hP hX
    by_cases h0 : b = []
    · subst h0
      have : m = 0 := by simpa using hm.symm
      subst this
      exact ⟨0, s, storeF_nil _ _ _, .inl ⟨rfl, ⟨hO, hw, hP, rfl, fun _ _ => rfl⟩, fun l hl => by have := hroom l hl; omega, (spl_nil _ _).symm⟩⟩
    · have hpos : 0 < b.length := List.length_pos_iff.2 h0
      have hi : p / 64 < s.ls.length := by omega
      have hr1 : Room 1 s := fun l hl => by have := hroom l hl; omega
      have hwL := layS_wf (at_ := p - p % 8) hw hr1 (stW_nm (p := p) (s := s) hb)
      have himg := img_stW (p := p) hw hi hb hr1
      have hil := img_length hw.line
      have hlen : (layS (p - p % 8) (nm (stW p b s)) s).ls.length = s.ls.length := layS_len _ _ _
      have ht : (b.take (8 - p % 8)).length = min b.length (8 - p % 8) := by rw [List.length_take]; omega
      have hk : (b.drop (8 - p % 8)).length = m - min m (8 - p % 8) := by rw [List.length_drop]; omega
      have hqe : (p - p % 8) / 64 = p / 64 := by omega
      have hP1 : Poss X (layS (p - p % 8) (nm (stW p b s)) s) := by
        refine poss_lay hP (by omega) hwL ?_
        rw [himg, hqe]
        by_cases hlt : m ≤ 8 - p % 8
        · have := hX m (p / 64) (by omega) (by omega) (.inr rfl) hi
          rw [← hm, List.take_length] at this
          rw [List.take_of_length_le (by omega)]; exact this
        · exact hX (8 - p % 8) (p / 64) (by omega) (by omega) (.inl (by omega)) hi
      rw [storeF_step h0]
      rcases done_loss hwL hP1 with ⟨h1, h2, h3⟩ | ⟨h1, h2⟩
      · rw [h1, if_neg (by decide)]
        have hoff : (doneS (layS (p - p % 8) (nm (stW p b s)) s)).off = false := by rw [h3]; unfold layS; rw [(onLine_fields _ _ s).2.2.2.1]; exact hO
        have hI2 : imgS (doneS (layS (p - p % 8) (nm (stW p b s)) s)) = spl (imgS s) p (b.take (8 - p % 8)) := by unfold imgS; rw [h2]; exact himg
        have hroom2 : Room (r + (m - min m (8 - p % 8))) (doneS (layS (p - p % 8) (nm (stW p b s)) s)) := fun l hl => by
          rw [h2] at hl
          have := onLine_room (r := r + m - 1) (f := layL ((p - p % 8) % 64 / 8) (nm (stW p b s))) (i := (p - p % 8) / 64) (fun l hl => by have := hroom l hl; omega) (fun l => by simp [layL]) l hl
          omega
        have hX2 : ∀ k q, 0 < k → k ≤ m - min m (8 - p % 8) → ((p + min b.length (8 - p % 8) + k) % 8 = 0 ∨ k = m - min m (8 - p % 8)) → q < (doneS (layS (p - p % 8) (nm (stW p b s)) s)).ls.length →
            X q (chunk q (spl (imgS (doneS (layS (p - p % 8) (nm (stW p b s)) s))) (p + min b.length (8 - p % 8)) ((b.drop (8 - p % 8)).take k))) := fun k q k0 k1 k2 hq => by
          rw [hI2, ← ht, spl_spl (by rw [ht, List.length_take, List.length_drop]; unfold imgS; omega)]
          have e : b.take (8 - p % 8) ++ (b.drop (8 - p % 8)).take k = b.take (8 - p % 8 + k) := by rw [← List.take_add]
          rw [e]
          refine hX _ q (by omega) (by omega) (by omega) (by rw [h2, hlen] at hq; exact hq)
        obtain ⟨e, s2, g1, g2⟩ := ih (m - min m (8 - p % 8)) (by omega) (p := p + min b.length (8 - p % 8)) (r := r) (b := b.drop (8 - p % 8)) (s := doneS (layS (p - p % 8) (nm (stW p b s)) s))
          hk (doneS_wf hwL) hoff (fun x hx => hb x (List.mem_of_mem_drop hx)) hroom2 (by rw [h2, hlen]; omega) (fun q l hl σ hσ => by rw [h2] at hl; exact hP1 q l hl σ hσ) hX2
        refine ⟨e, s2, g1, ?_⟩
        rcases g2 with ⟨a1, ⟨a2, a3, a4, a5, a6⟩, a7, a8⟩ | ⟨a1, a2⟩
        · left
          refine ⟨a1, ⟨a2, a3, a4, by rw [a5, h2, hlen], fun q hq => ?_⟩, a7, ?_⟩
          · rw [a6 q (by omega), h2, layS_ls (by omega)]
            exact List.getElem?_set_ne (by omega)
          · rw [a8, hI2, ← ht, spl_spl (by rw [ht, List.length_drop]; unfold imgS; omega), List.take_append_drop]
        · right
          rw [h2, hlen] at a2; exact ⟨a1, a2⟩
      · rw [h1, if_pos (by decide)]
        exact ⟨5, _, rfl, .inr ⟨rfl, by rw [hlen] at h2; exact h2⟩⟩
theorem flF_loss {X : Nat → List Nat → Prop} : ∀ (k q : Nat) (s : DevS), WfD s → s.off = false → Poss X s → q + k ≤ s.ls.length →
    ∃ e s2, flF k q s = (e, s2) ∧ ((e = 0 ∧ s2.off = false ∧ WfD s2 ∧ s2.ls = (flsh k q s.ls).map fenceL) ∨ (e = 5 ∧ Lost X s.ls.length s2))
  | 0, q, s, hw, hO, hP, h => by
    have hw2 : WfD (fenceS s) := ⟨by simp [fenceS]; exact hw.pos, by simp [fenceS]; exact hw.top, fun l hl => by
      simp only [fenceS, List.mem_map] at hl
      obtain ⟨l0, h0, rfl⟩ := hl
      exact fenceL_wf (hw.line l0 h0), hw.arms, hw.after, hw.keeps⟩
    have hP2 : Poss X (fenceS s) := poss_sub hP fun q l' hl' => by
      obtain ⟨l, h1, rfl⟩ := fence_get hl'; exact ⟨l, h1, fence_mem⟩
    rw [flF_zero]
    unfold fe
    rw [if_neg (by rw [hO]; decide), flsh_zero]
    rcases done_loss hw2 hP2 with ⟨h1, h2, h3⟩ | ⟨h1, h2⟩
    · exact ⟨_, _, rfl, .inl ⟨h1, by rw [h3]; exact hO, doneS_wf hw2, h2⟩⟩
    · exact ⟨_, _, rfl, .inr ⟨h1, by have e : (fenceS s).ls.length = s.ls.length := by simp [fenceS]
                                     rw [e] at h2; exact h2⟩⟩
  | k + 1, q, s, hw, hO, hP, h => by
    have hq : q < s.ls.length := by omega
    have hs : flushS (q * 64) s = { s with ls := s.ls.set q (flushL s.ls[q]) } := by
      unfold flushS; rw [show q * 64 / 64 = q by omega, onLine_at hq]
    have hwF := flushS_wf (p := q * 64) hw
    have hPF : Poss X (flushS (q * 64) s) := poss_sub hP fun j l' hl' => by
      rw [hs] at hl'
      by_cases e : q = j
      · subst e
        rw [List.getElem?_set_self hq] at hl'
        have := Option.some.inj hl'
        subst this
        exact ⟨_, List.getElem?_eq_getElem hq, fun σ h => h⟩
      · rw [List.getElem?_set_ne e] at hl'
        exact ⟨l', hl', fun σ h => h⟩
    have hlF : (flushS (q * 64) s).ls.length = s.ls.length := by rw [hs]; simp
    have hf1 : fl1 ((q * 64 : Nat) : Int) s = (doneE (flushS (q * 64) s), doneS (flushS (q * 64) s)) := by
      unfold fl1
      rw [hO, rdy_ok (by omega) (by omega) (by omega), if_neg (by simp), Int.toNat_natCast]
    show ∃ e s2, (if (fl1 ((q * 64 : Nat) : Int) s).1 ≠ 0 then fl1 ((q * 64 : Nat) : Int) s else flF k (q + 1) (fl1 ((q * 64 : Nat) : Int) s).2) = (e, s2) ∧ _
    rw [hf1]
    rcases done_loss hwF hPF with ⟨h1, h2, h3⟩ | ⟨h1, h2⟩
    · simp only []
      rw [h1, if_neg (by decide)]
      obtain ⟨e, s2, g1, g2⟩ := flF_loss (X := X) k (q + 1) (doneS (flushS (q * 64) s)) (doneS_wf hwF) (by rw [h3, hs]; exact hO) (fun j l hl σ hσ => by rw [h2] at hl; exact hPF j l hl σ hσ) (by rw [h2, hlF]; omega)
      refine ⟨e, s2, g1, ?_⟩
      rcases g2 with ⟨a1, a2, a3, a4⟩ | ⟨a1, a2⟩
      · exact .inl ⟨a1, a2, a3, by rw [a4, h2, hs]; simp only []; rw [flsh_step hq]⟩
      · exact .inr ⟨a1, by rw [h2, hlF] at a2; exact a2⟩
    · simp only []
      rw [h1, if_pos (by decide)]
      exact ⟨5, _, rfl, .inr ⟨rfl, by rw [hlF] at h2; exact h2⟩⟩
theorem lastS_loss {X : Nat → List Nat → Prop} {p m : Nat} {s : DevS} (hw : WfD s) (hO : s.off = false) (hP : Poss X s) (h1 : 1 ≤ m) (hp : p + m ≤ s.ls.length * 64) (hc : ∀ (q : Nat) (l : LineS), (q + 1) * 64 ≤ p ∨ p + m ≤ q * 64 → s.ls[q]? = some l → l.st.length = 1) :
    ∃ e s2, lastS p m s = (e, s2) ∧ ((e = 0 ∧ s2.off = false ∧ WfD s2 ∧ Cln s2 ∧ s2.ls.length = s.ls.length ∧ imgS s2 = imgS s) ∨ (e = 5 ∧ Lost X s.ls.length s2)) := by
  obtain ⟨e, s2, g1, g2⟩ := flF_loss (X := X) ((p + m - 1) / 64 - p / 64 + 1) (p / 64) s hw hO hP (by omega)
  refine ⟨e, s2, g1, ?_⟩
  rcases g2 with ⟨a1, a2, a3, a4⟩ | h
  · left
    have hwf : ∀ l ∈ flsh ((p + m - 1) / 64 - p / 64 + 1) (p / 64) s.ls, WfL l := flsh_wf hw.line
    refine ⟨a1, a2, a3, fun l' hl' => ?_, by rw [a4, List.length_map, flsh_len], ?_⟩
    · rw [a4] at hl'
      obtain ⟨q, hq, rfl⟩ := List.mem_iff_getElem.1 hl'
      obtain ⟨l1, e1, e2⟩ := fence_get (List.getElem?_eq_getElem hq)
      obtain ⟨l, e3, e4⟩ := flsh_get e1
      rw [e2]
      have hwl := hw.line l (List.mem_of_getElem? e3)
      have hpl := List.length_pos_iff.2 hwl.ne
      by_cases c : p / 64 ≤ q ∧ q < p / 64 + ((p + m - 1) / 64 - p / 64 + 1)
      · rw [if_pos c] at e4
        subst e4
        unfold fenceL flushL
        rw [if_pos (by simp only []; omega)]
        simp only [List.length_drop]; omega
      · rw [if_neg c] at e4
        subst e4
        have := hc q l1 (by omega) e3
        unfold fenceL
        split
        · rename_i h0
          have := hwl.hi
          simp only [List.length_drop]; omega
        · exact this
    · unfold imgS
      rw [a4]
      refine img_seen ?_
      rw [← flsh_seen ((p + m - 1) / 64 - p / 64 + 1) (p / 64) s.ls, List.map_map]
      exact List.map_congr_left fun l hl => seen_fence (hwf l hl)
  · exact .inr h
end Go.Vl

set_option linter.unusedVariables false
set_option linter.unusedSimpArgs false
namespace Go.Vl
open Go Go.Proofs
theorem crL_app : ∀ {xs ys : List Nat} {r : Nat}, crL r (xs ++ ys) = crL (crL r xs) ys
  | [], _, _ => rfl
  | x :: xs, ys, r => by show crL _ (xs ++ ys) = crL (crL _ xs) ys; exact crL_app
theorem crc_app {s : Nat} {xs ys : List Nat} : crc s (xs ++ ys) = crc (crc s xs) ys := by
  unfold crc; rw [crL_app, Nat.xor_assoc (crL _ xs), Nat.xor_self, Nat.xor_zero]
/-- How many bytes are added behind n bytes. -/
def pad8 (n : Nat) : Nat := (8 - n % 8) % 8
def up8 (n : Nat) : Nat := n + pad8 n
theorem up8_le (n : Nat) : n ≤ up8 n ∧ up8 n < n + 8 := by unfold up8 pad8; omega
/-- The head of a record, but for its sum. -/
def recH (p n : Nat) : List Nat := le 8 p ++ le 8 n
theorem recH_len (p n : Nat) : (recH p n).length = 16 := by unfold recH; rw [List.length_append, le_length, le_length]
theorem recH_b (p n : Nat) : ∀ x ∈ recH p n, x < 256 := fun x hx => by
  rcases List.mem_append.1 hx with h | h <;> exact le_bytes _ _ _ h
/-- A record's bytes. -/
def recS (p : Nat) (old : List Nat) : List Nat := recH p old.length ++ le 8 (crc 0 (recH p old.length ++ old)) ++ old ++ List.replicate (pad8 old.length) 0
theorem recS_eq (p : Nat) (old : List Nat) : recS p old = recH p old.length ++ le 8 (crc 0 (recH p old.length ++ old)) ++ old ++ List.replicate (pad8 old.length) 0 := rfl
theorem recS_len (p : Nat) (old : List Nat) : (recS p old).length = 24 + up8 old.length := by
  unfold recS up8; simp only [List.length_append, recH_len, le_length, List.length_replicate]; omega
theorem recS_b {p : Nat} {old : List Nat} (h : ∀ x ∈ old, x < 256) : ∀ x ∈ recS p old, x < 256 := fun x hx => by
  unfold recS at hx
  rcases List.mem_append.1 hx with h1 | h1
  · rcases List.mem_append.1 h1 with h2 | h2
    · rcases List.mem_append.1 h2 with h3 | h3
      · exact recH_b _ _ _ h3
      · exact le_bytes _ _ _ h3
    · exact h x h2
  · rw [(List.mem_replicate.1 h1).2]; decide
/-- What records of so many bytes take. -/
def needF : List Int → Int → Int × Int
  | [], s => (s, 0)
  | n :: l, s => if n < 1 then (0, 2) else if 9223372036854775807 < n + pad8 n.toNat then (0, 2) else if 9223372036854775807 - 24 - s < n + pad8 n.toNat then (0, 2) else needF l (s + 24 + (n + pad8 n.toNat))
def needS (l : List Int) : Int × Int := needF l 0
/-- May an extent be? -/
def mayX (n at_ sz : Nat) (x : Int × Int) : Bool := decide (1 ≤ x.2 ∧ 64 ≤ x.1 ∧ x.1 + x.2 ≤ n ∧ (x.1 + x.2 ≤ at_ ∨ (at_ + sz : Nat) ≤ x.1))
/-- Where a log may lie. -/
structure LogW (n at_ sz : Nat) : Prop where
  a : 64 ≤ at_
  am : at_ % 64 = 0
  s : 128 ≤ sz
  sm : sz % 64 = 0
  top : at_ + sz ≤ n
/-- Records are stored, one behind the other. -/
def putF : Nat → List (Int × Int) → DevS → Int × DevS
  | _, [], s => (0, s)
  | p, x :: l, s => if (sto (p : Nat) (recS x.1.toNat (((imgS s).drop x.1.toNat).take x.2.toNat)) s).1 ≠ 0 then sto (p : Nat) (recS x.1.toNat (((imgS s).drop x.1.toNat).take x.2.toNat)) s
    else putF (p + (24 + up8 x.2.toNat)) l (sto (p : Nat) (recS x.1.toNat (((imgS s).drop x.1.toNat).take x.2.toNat)) s).2
def lensX (l : List (Int × Int)) : List Int := l.map (·.2)
def writeS (at_ sz : Nat) (l : List (Int × Int)) (s : DevS) : Int × DevS :=
  if s.off = true then (5, s) else if (wordP (at_ : Nat) s).1 ≠ 0 then (3, s) else if l.all (mayX (s.ls.length * 64) at_ sz) = false then (6, s)
  else if (needS (lensX l)).2 ≠ 0 ∨ ((sz - 64 : Nat) : Int) < (needS (lensX l)).1 then (111, s) else if l = [] then (0, s)
  else if (putF (at_ + 64) l s).1 ≠ 0 then putF (at_ + 64) l s
  else if (rangeP ((at_ + 64 : Nat) : Int) (needS (lensX l)).1 (putF (at_ + 64) l s).2).1 ≠ 0 then rangeP ((at_ + 64 : Nat) : Int) (needS (lensX l)).1 (putF (at_ + 64) l s).2
  else pubP (at_ : Nat) l.length (rangeP ((at_ + 64 : Nat) : Int) (needS (lensX l)).1 (putF (at_ + 64) l s).2).2
def clearS (at_ : Nat) (s : DevS) : Int × DevS := if s.off = true then (5, s) else pubP (at_ : Nat) 0 s
/-- The record at a place of the room. -/
def readS (n at_ sz : Nat) (room : List Nat) (p : Nat) : Option ((Nat × List Nat) × Nat) :=
  if room.length < p + 24 then none
  else if mayX n at_ sz ((nm ((room.drop p).take 8) : Nat), (nm ((room.drop (p + 8)).take 8) : Nat)) = false then none
  else if room.length < p + (24 + up8 (nm ((room.drop (p + 8)).take 8))) then none
  else if recS (nm ((room.drop p).take 8)) ((room.drop (p + 24)).take (nm ((room.drop (p + 8)).take 8))) ≠ (room.drop p).take (24 + up8 (nm ((room.drop (p + 8)).take 8))) then none
  else some ((nm ((room.drop p).take 8), (room.drop (p + 24)).take (nm ((room.drop (p + 8)).take 8))), 24 + up8 (nm ((room.drop (p + 8)).take 8)))
/-- So many records, read. -/
def recsF (n at_ sz : Nat) (room : List Nat) : Nat → Nat → List (Nat × List Nat) × Int
  | 0, _ => ([], 0)
  | k + 1, p => match readS n at_ sz room p with
    | none => ([], 110)
    | some (x, t) => if (recsF n at_ sz room k (p + t)).2 ≠ 0 then ([], 110) else (x :: (recsF n at_ sz room k (p + t)).1, 0)
def roomS (at_ sz : Nat) (s : DevS) : List Nat := ((imgS s).drop (at_ + 64)).take (sz - 64)
def recordsS (at_ sz : Nat) (s : DevS) : List (Nat × List Nat) × Int :=
  if s.off = true then ([], 5) else recsF (s.ls.length * 64) at_ sz (roomS at_ sz s) (wordP (at_ : Nat) s).1 0
/-- Lines are flushed. -/
def flL : Nat → Nat → DevS → Int × DevS
  | 0, _, s => (0, s)
  | k + 1, q, s => if (fl1 ((q * 64 : Nat) : Int) s).1 ≠ 0 then fl1 ((q * 64 : Nat) : Int) s else flL k (q + 1) (fl1 ((q * 64 : Nat) : Int) s).2
def flushX (p m : Nat) (s : DevS) : Int × DevS := flL ((p + m - 1) / 64 - p / 64 + 1) (p / 64) s
def backS (x : Nat × List Nat) (s : DevS) : Int × DevS := if (sto (x.1 : Nat) x.2 s).1 ≠ 0 then sto (x.1 : Nat) x.2 s else flushX x.1 x.2.length (sto (x.1 : Nat) x.2 s).2
/-- Records are brought back, one behind the other. -/
def backF : List (Nat × List Nat) → DevS → Int × DevS
  | [], s => (0, s)
  | x :: l, s => if (backS x s).1 ≠ 0 then backS x s else backF l (backS x s).2
def rollS (at_ sz : Nat) (s : DevS) : (Int × Int) × DevS :=
  if (recordsS at_ sz s).2 ≠ 0 ∨ (recordsS at_ sz s).1 = [] then ((0, (recordsS at_ sz s).2), s)
  else if (backF (recordsS at_ sz s).1.reverse s).1 ≠ 0 then ((0, (backF (recordsS at_ sz s).1.reverse s).1), (backF (recordsS at_ sz s).1.reverse s).2)
  else if (fe (backF (recordsS at_ sz s).1.reverse s).2).1 ≠ 0 then ((0, (fe (backF (recordsS at_ sz s).1.reverse s).2).1), (fe (backF (recordsS at_ sz s).1.reverse s).2).2)
  else if (pubP (at_ : Nat) 0 (fe (backF (recordsS at_ sz s).1.reverse s).2).2).1 ≠ 0 then ((0, (pubP (at_ : Nat) 0 (fe (backF (recordsS at_ sz s).1.reverse s).2).2).1), (pubP (at_ : Nat) 0 (fe (backF (recordsS at_ sz s).1.reverse s).2).2).2)
  else (((recordsS at_ sz s).1.length, 0), (pubP (at_ : Nat) 0 (fe (backF (recordsS at_ sz s).1.reverse s).2).2).2)
end Go.Vl

set_option linter.unusedVariables false
set_option linter.unusedSimpArgs false
namespace Go.Vl
open Go Go.Proofs
def lcs11 (d at_ sz : Nat) : List Value := [.pointer (some ⟨d, 0, none⟩), .int .i64 (at_ : Nat), .int .i64 (sz : Nat)]
def xcs (x : Int × Int) : List Value := [.int .i64 x.1, .int .i64 x.2]
structure XW (x : Int × Int) : Prop where
  a : -9223372036854775808 ≤ x.1 ∧ x.1 ≤ 9223372036854775807
  l : -9223372036854775808 ≤ x.2 ∧ x.2 ≤ 9223372036854775807
/-- n, brought up. -/
def rndS (n : Nat) : Int × Int := if 9223372036854775807 < n + pad8 n then (0, 2) else (((up8 n : Nat) : Int), 0)
theorem wr_i64 {x : Int} (h : -9223372036854775808 ≤ x ∧ x ≤ 9223372036854775807) : IntKind.i64.wrap x = x := by simp [IntKind.wrap, IntKind.bits, IntKind.signed]; omega
theorem needF_cons {n : Nat} {l : List Int} {s : Int} (h : 1 ≤ n) : needF ((n : Int) :: l) s = if (rndS n).2 ≠ 0 ∨ 9223372036854775807 - 24 - s < (rndS n).1 then (0, 2) else needF l (s + 24 + (rndS n).1) := by
  have e : needF ((n : Int) :: l) s = if (n : Int) < 1 then (0, 2) else if 9223372036854775807 < (n : Int) + pad8 (n : Int).toNat then (0, 2) else if 9223372036854775807 - 24 - s < (n : Int) + pad8 (n : Int).toNat then (0, 2) else needF l (s + 24 + ((n : Int) + pad8 (n : Int).toNat)) := rfl
  rw [e, if_neg (by omega), Int.toNat_natCast]
  unfold rndS up8
  by_cases h1 : 9223372036854775807 < n + pad8 n
  · rw [if_pos (by omega), if_pos h1, if_pos (.inl (by decide))]
  · rw [if_neg (by omega), if_neg h1]
    by_cases h2 : 9223372036854775807 - 24 - s < ((n + pad8 n : Nat) : Int)
    · rw [if_pos (by omega), if_pos (.inr h2)]
    · rw [if_neg (by omega), if_neg (by simp only [ne_eq, not_true, false_or]; exact h2)]
      congr 1
theorem needF_drop {xs : List Int} {i : Nat} (h : i < xs.length) (s : Int) : needF (xs.drop i) s = needF (xs[i] :: xs.drop (i + 1)) s := by rw [List.drop_eq_getElem_cons h]
theorem needF_bad {n : Int} {l : List Int} {s : Int} (h : n < 1) : needF (n :: l) s = (0, 2) := by
  show (if n < 1 then _ else _) = _
  rw [if_pos h]
theorem Sum_2 {A : SP} {a a2 : Option Addr} {m m2 c c2 b : Nat} {xs ys : List Nat} {E : TypeId} (h1 : Rs A a (bys xs)) (e1 : xs.length = m) (hb : ∀ x ∈ xs, x < 256) (hl : m ≤ 1099511627776) (k1 : Rs A a2 (bys ys)) (k2 : ys.length = m2) (kb : ∀ x ∈ ys, x < 256) (kl : m2 ≤ 1099511627776) :
    Fn Try.prog 74 #[.slice (some ⟨b, 0, none⟩) 2 2] (A * pt b (cl [.slice a m c, .slice a2 m2 c2] E)) (fun r B => r = .int .u32 ((crc 0 (xs ++ ys) : Nat) : Int) ∧ A * pt b (cl [.slice a m c, .slice a2 m2 c2] E) = B) := by
  subst e1 k2
  refine fn_rs (xs := [.slice a xs.length c, .slice a2 ys.length c2]) rs_pt0 fun hr => ?_; refine fn_rs h1.left fun h1 => ?_; refine fn_rs k1.left fun k1 => ?_
  have h := Sum_c (c := 2) (ls := [xs, ys]) ⟨_, rfl, hr, fun i hi => by
    match i, hi with
    | 0, _ => exact ⟨a, c, rfl, h1⟩
    | 1, _ => exact ⟨a2, c2, rfl, k1⟩⟩ rfl (by intro l hl; simp at hl; rcases hl with rfl | rfl; exact hb; exact kb) (by intro l hm; simp at hm; rcases hm with rfl | rfl; exact hl; exact kl) (by show 2 ≤ _; decide)
  rw [show crcs [xs, ys] = crc 0 (xs ++ ys) by rw [crc_app]; rfl] at h
  exact h
attribute [local irreducible] crk crL crc Sl pt ro Dev imgS recS
theorem Round8_c {A : SP} {n : Nat} (hn : n ≤ 9223372036854775807 := by omega) :
    Fn Try.prog 39 #[.int .i64 (n : Nat), .int .i64 8] (A) (fun r B => r = .tuple #[.int .i64 (rndS n).1, .int .i64 (rndS n).2] ∧ A = B) := by
  refine fn_enterW (args := [.int .i64 (n : Nat), .int .i64 8]) Try.func39 rfl Try.ntmps39 (by simp) ?_; refine sr ?_; refine tla ?_; refine tla ?_; refine nq ?_; refine tc_seq ?_; refine sr ?_; refine tlm ?_; refine tv (o_lss rfl rfl) ?_; refine tlm ?_; refine tl_bool (d := 9) rfl (fun h => ?_) (fun h => ?_)
  · exfalso; first | (simp at h; done) | (simp at h; omega)
  · try simp only [lv1, lv2, lv3, lv4, lv5, lv6, Bool.not_true, Bool.not_false] at h
    refine tlm ?_; refine tv (o_lss rfl rfl) ?_; refine tv (o_pick_f rfl (by conv => lhs; whnf)) ?_; refine nq ?_; refine tc_cond rfl (fun h => ?_) (fun h => ?_)
    · exfalso; simp at h
    · try simp only [lv1, lv2, lv3, lv4, lv5, lv6, Bool.not_true, Bool.not_false] at h
      refine tc_skip ?_; refine q_then_n ?_; refine sr ?_; refine tlm ?_; refine tlm ?_; refine tlm ?_; refine tv (o_remN (b := 8) rfl rfl (by decide)) ?_; refine tv (by first | exact o_subI rfl rfl (by omega) | exact o_sub rfl rfl) ?_; refine tl_env (d := 17) (v := .int .i64 ((8 - n % 8 : Nat) : Int)) (by show Value.int .i64 ((8 : Int) - ((n % 8 : Nat) : Int)) = _; congr 1; omega) ?_; refine tlm ?_; refine tv (o_remN (b := 8) rfl rfl (by decide)) ?_; refine tla ?_; refine nq ?_; refine tc_seq ?_; refine sr ?_; refine tlm ?_; refine tlm ?_; refine tv (by first | exact o_subI rfl rfl (by omega) | exact o_sub rfl rfl) ?_; refine tl_env (d := 22) (v := .int .i64 ((9223372036854775807 - pad8 n : Nat) : Int)) (by have hp : pad8 n < 8 := (by unfold pad8; omega); show Value.int .i64 ((9223372036854775807 : Int) - ((pad8 n : Nat) : Int)) = _; congr 1; omega) ?_; refine tv (o_gtr rfl rfl) ?_; refine nq ?_; refine tc_cond rfl (fun h => ?_) (fun h => ?_)
      · have hp : pad8 n < 8 := by unfold pad8; omega
        have hg : 9223372036854775807 < n + pad8 n := by first | omega | (simp at h; omega)
        refine sr ?_; refine tla ?_; refine tla ?_; refine nq ?_; refine tc_ret ?_; refine q_then_r ?_
        have e : rndS n = (0, 2) := by unfold rndS; rw [if_pos hg]
        rw [e]
        exact ⟨.tuple #[.int .i64 0, .int .i64 2], A, res2 rfl rfl rfl, Dr.sat (by repeat (first | with_reducible exact dr_refl | apply dr_keep | apply dr_drop)), rfl, rfl⟩
      · have hp : pad8 n < 8 := by unfold pad8; omega
        have hg : ¬ 9223372036854775807 < n + pad8 n := by first | omega | (simp at h; omega)
        refine tc_skip ?_; refine q_then_n ?_; refine sr ?_; refine tlm ?_; refine tlm ?_; refine tv (by first | exact o_addI rfl rfl (by omega) | exact o_add rfl rfl) ?_; refine tl_env (d := 26) (v := .int .i64 ((up8 n : Nat) : Int)) (by show Value.int .i64 (IntKind.i64.wrap ((n + pad8 n : Nat) : Int)) = _; rw [wr_i64 (by omega)]; rfl) ?_; refine tla ?_; refine tla ?_; refine nq ?_; refine tc_ret ?_
        have e : rndS n = (((up8 n : Nat) : Int), 0) := by unfold rndS; rw [if_neg hg]
        rw [e]
        exact ⟨.tuple #[.int .i64 ((up8 n : Nat) : Int), .int .i64 0], A, res2 rfl rfl rfl, Dr.sat (by repeat (first | with_reducible exact dr_refl | apply dr_keep | apply dr_drop)), rfl, rfl⟩
theorem Need_c {A : SP} {a : Option Addr} {c m : Nat} {xs : List Int} (hr : Rs A a (ints xs) := by repeat (first | assumption | with_reducible exact rs_sl | with_reducible exact rs_pt0 | exact rs_none | apply Rs.left)) (hm : xs.length = m := by first | assumption | rfl) (hx : ∀ x ∈ xs, -9223372036854775808 ≤ x ∧ x ≤ 9223372036854775807 := by assumption) (hml : m ≤ 4611686018427387904 := by omega) :
    Fn Try.prog 10 #[.slice a m c] (A) (fun r B => r = .tuple #[.int .i64 (needS xs).1, .int .i64 (needS xs).2] ∧ A = B) := by
  refine fn_enterW (args := [.slice a m c]) Try.func10 rfl Try.ntmps10 (by simp) ?_; refine sr ?_; refine tla ?_; refine tla ?_; refine nq ?_; refine sr ?_; refine tla ?_; refine nq ?_; refine tc_seq ?_; refine sr ?_; refine tlm ?_; refine tv (o_len Try.underlying22 rfl) ?_; refine tlm ?_; refine nq ?_; refine tc_block ?_; refine tc_loop (fun kk ρ BB => ∃ (i : Nat) (sm : Int), (i ≤ m) ∧ (needF (xs.drop i) sm = needS xs) ∧ (0 ≤ sm ∧ sm ≤ 9223372036854775807) ∧ kk = m - i ∧ ρ 4 = .int .i64 sm ∧ ρ 11 = .int .i64 (i : Nat) ∧ ρ 9 = .slice a m c ∧ ρ 10 = .int .i64 (m : Nat) ∧ BB = A) (m := m - (0)) ?_ ?_
  · exact ⟨0, 0, by omega, rfl, by omega, rfl, rfl, rfl, rfl, rfl, rfl⟩
  · intro k ρ B hI
    obtain ⟨i, sm, hp0, hp1, hp2, hkk1, hE4, hE11, hE9, hE10, hBA⟩ := hI
    obtain rfl := hBA.symm
    refine tc_env (d := 4) hE4 ?_; refine tc_env (d := 11) hE11 ?_; refine tc_env (d := 9) hE9 ?_; refine tc_env (d := 10) hE10 ?_
    clear hE4 hE11 hE9 hE10
    refine sr ?_; refine tv (o_lss rfl rfl) ?_; refine nq ?_; refine tc_seq ?_; refine tc_cond rfl (fun h => ?_) (fun h => ?_)
    · have hi : i < xs.length := by first | omega | (simp at h; omega)
      obtain ⟨x, hx1⟩ : ∃ x, xs[i] = x := ⟨_, rfl⟩
      have hxb := hx x (hx1 ▸ List.getElem_mem hi)
      have hnd := needF_drop hi sm
      rw [hx1] at hnd
      obtain ⟨hsm0, hsm1⟩ := hp2
      refine tc_skip ?_; refine q_then_n ?_; refine tc_seq ?_; refine tc_block ?_; refine sr ?_; refine tv (o_ixP1 Try.underlying22 sz3 rfl rfl (by omega) (nn_rs hr (by rw [ints_length]; omega))) ?_; refine tv (o_ldP p3 rfl hr (ints_at hi)) ?_; refine tl_env (d := 14) (v := .int .i64 x) (by show Value.int .i64 xs[i] = _; rw [hx1]) ?_; refine tla ?_; refine nq ?_; refine tc_seq ?_; refine sr ?_; refine tlm ?_; refine tv (o_lss rfl rfl) ?_; refine nq ?_; refine tc_cond rfl (fun h => ?_) (fun h => ?_)
      · have g16 : (x < 1) := by first | exact of_decide_eq_true h | (have h2 := h; simp at h2; omega) | simpa using h
        refine sr ?_; refine tla ?_; refine tla ?_; refine nq ?_; refine tc_ret ?_; refine q_then_r (q_block_r (q_then_r (q_then_r (q_block_r (q_then_r ?_)))))
        have e : needS xs = (0, 2) := by rw [← hp1, hnd]; first | exact needF_bad g16 | rw [needF_cons hq1, if_pos hng]
        rw [e]
        exact ⟨.tuple #[.int .i64 0, .int .i64 2], A, res2 rfl rfl rfl, Dr.sat (by repeat (first | with_reducible exact dr_refl | apply dr_keep | apply dr_drop)), rfl, rfl⟩
      · have g16 : ¬ (x < 1) := by first | exact of_decide_eq_false h | (have h2 := h; simp at h2; omega) | simpa using h
        refine tc_skip ?_; refine q_then_n ?_; refine sr ?_; refine tlm ?_
        obtain ⟨q, rfl⟩ := Int.eq_ofNat_of_zero_le (show 0 ≤ x by omega)
        have hq1 : 1 ≤ q := by omega
        have hqr : (rndS q).1 ≤ 9223372036854775807 ∧ 0 ≤ (rndS q).1 := by unfold rndS up8; split <;> simp <;> omega
        refine tl_c rfl (o_call bd39 rfl (Round8_c (n := q))) ?_; rintro _ _ ⟨rfl, rfl⟩; refine tlm ?_; refine tv (o_extract rfl rfl) ?_; refine tv (o_extract rfl rfl) ?_; refine tla ?_; refine tla ?_; refine nq ?_; refine tc_seq ?_; refine sr ?_; refine tlm ?_; refine tv (o_nei rfl rfl) ?_; refine tlm ?_; refine tl_bool (d := 24) rfl (fun h => ?_) (fun h => ?_)
        · have hng : (rndS q).2 ≠ 0 ∨ 9223372036854775807 - 24 - sm < (rndS q).1 := .inl (by first | exact of_decide_eq_true h | (simp at h; omega))
          refine tk ?_; refine tk ?_; refine tk ?_; refine tk ?_; refine tv (o_pick_t rfl (by conv => lhs; whnf)) ?_; refine nq ?_; refine tc_cond_t rfl ?_; refine sr ?_; refine tla ?_; refine tla ?_; refine nq ?_; refine tc_ret ?_; refine q_then_r (q_block_r (q_then_r (q_then_r (q_block_r (q_then_r ?_)))))
          have e : needS xs = (0, 2) := by rw [← hp1, hnd]; first | exact needF_bad g16 | rw [needF_cons hq1, if_pos hng]
          rw [e]
          exact ⟨.tuple #[.int .i64 0, .int .i64 2], A, res2 rfl rfl rfl, Dr.sat (by repeat (first | with_reducible exact dr_refl | apply dr_keep | apply dr_drop)), rfl, rfl⟩
        · have h24 : (rndS q).2 = 0 := by first | (have h9 := of_decide_eq_false h; omega) | (simp at h; omega)
          refine tlm ?_; refine tlm ?_; refine tv (o_subI rfl rfl (by omega)) ?_; refine tv (o_gtr rfl rfl) ?_; refine tv (o_pick_f rfl (by conv => lhs; whnf)) ?_; refine nq ?_; refine tc_cond rfl (fun h => ?_) (fun h => ?_)
          · have hng : (rndS q).2 ≠ 0 ∨ 9223372036854775807 - 24 - sm < (rndS q).1 := by first | assumption | exact .inr (by first | omega | (simp at h; omega))
            refine sr ?_; refine tla ?_; refine tla ?_; refine nq ?_; refine tc_ret ?_; refine q_then_r (q_block_r (q_then_r (q_then_r (q_block_r (q_then_r ?_)))))
            have e : needS xs = (0, 2) := by rw [← hp1, hnd]; first | exact needF_bad g16 | rw [needF_cons hq1, if_pos hng]
            rw [e]
            exact ⟨.tuple #[.int .i64 0, .int .i64 2], A, res2 rfl rfl rfl, Dr.sat (by repeat (first | with_reducible exact dr_refl | apply dr_keep | apply dr_drop)), rfl, rfl⟩
          · have hn9 : ¬ 9223372036854775807 - 24 - sm < (rndS q).1 := by first | omega | (simp at h; omega)
            have hng : ¬ ((rndS q).2 ≠ 0 ∨ 9223372036854775807 - 24 - sm < (rndS q).1) := by omega
            refine tc_skip ?_; refine q_then_n ?_; refine sr ?_; refine tlm ?_; refine tv (by first | exact o_addI rfl rfl (by omega) | exact o_add rfl rfl) ?_; refine tla ?_; refine nq ?_; refine tc_reg ?_; refine tlm ?_; refine tlm ?_; refine tv (by first | exact o_addI rfl rfl (by omega) | exact o_add rfl rfl) ?_; refine tla ?_; refine tl_nil ?_; refine q_block_n (q_then_n ?_); refine tc_reg ?_; refine tv (by first | exact o_addI rfl rfl (by omega) | exact o_add rfl rfl) ?_; refine tlm ?_; refine nq ?_; exact ⟨_, by omega, i + 1, _, by omega, by rw [← hp1, hnd, needF_cons hq1, if_neg hng], by omega, rfl, rfl, rfl, rfl, rfl, rfl⟩
    · obtain rfl : i = m := by first | omega | (simp at h; omega)
      refine tc_exit ?_; refine q_then_e (q_then_e (q_block_x (q_then_n ?_))); refine sr ?_; refine tlm ?_; refine tla ?_; refine tla ?_; refine nq ?_; refine tc_ret ?_
      have e : needS xs = (sm, 0) := by rw [← hp1, List.drop_eq_nil_of_le (by omega)]; rfl
      rw [e]
      exact ⟨.tuple #[.int .i64 sm, .int .i64 0], A, res2 rfl rfl rfl, Dr.sat (by repeat (first | with_reducible exact dr_refl | apply dr_keep | apply dr_drop)), rfl, rfl⟩
theorem may11_c {A R : SP} {C : SP → SP} {d : Nat} {s : DevS} (hc : Ct A (Dev d s) R C := by repeat (first | with_reducible exact ct_here | apply ct_left)) {bl at_ sz : Nat} (hl : Has A bl (cl (lcs11 d at_ sz) 52) := by (repeat (first | assumption | with_reducible exact has_here | with_reducible exact has_pt | apply has_left))) {x : Int × Int} (hx : XW x := by assumption) (hlw : LogW (s.ls.length * 64) at_ sz := by assumption) :
    Fn Try.prog 54 #[.pointer (some ⟨bl, 0, none⟩), .agg (xcs x).toArray] (A) (fun r B => r = .bool (mayX (s.ls.length * 64) at_ sz x) ∧ A = B) := by
  refine fn_enterW (args := [.pointer (some ⟨bl, 0, none⟩), .agg (xcs x).toArray]) Try.func54 rfl Try.ntmps54 (by simp) ?_; refine tc_have (fun _ _ h => ct_wf2 hc h) fun hw => ?_
  have htop := hw.top
  have hpos := hw.pos
  obtain ⟨rfl, hC⟩ := hc
  obtain ⟨⟨hx1, hx2⟩, ⟨hx3, hx4⟩⟩ := hx
  obtain ⟨w1, w2, w3, w4, w5⟩ := hlw
  refine sr ?_; refine tl_x rfl (o_box rfl rfl) ?_; rintro _ _ ⟨b3, rfl, rfl⟩; refine tla ?_; refine nq ?_; refine sr ?_; refine tlm ?_; refine tv (o_nilCheck rfl) ?_; refine tv (o_fieldAddr (o := 0) Try.underlying52 rfl rfl sz31 rfl) ?_; refine tv (o_load p31 rfl (by repeat (first | assumption | apply has_left)) rfl) ?_; refine tl_c rfl (o_call bd45 rfl (Size_c (s := s))) ?_; rintro _ _ ⟨rfl, rfl⟩; refine tla ?_; refine nq ?_; refine tc_seq ?_; refine tc_seq ?_; refine tc_cut (fun ρ BB => ∃ (bb : Bool), (bb = decide (¬ (1 ≤ x.2 ∧ 64 ≤ x.1 ∧ x.1 ≤ (s.ls.length : Int) * 64 ∧ x.2 ≤ (s.ls.length : Int) * 64 - x.1))) ∧ ρ 33 = .bool bb ∧ ρ 0 = .pointer (some ⟨bl, 0, none⟩) ∧ ρ 3 = .pointer (some ⟨b3, 0, none⟩) ∧ BB = R * Dev d s * pt b3 (cl (xcs x) 74)) ?_ ?_
  · skip
    refine tc_reg ?_; refine tv (o_fieldAddr (o := 1) Try.underlying74 rfl rfl sz3 rfl) ?_; refine tv (by first | exact o_load p3 rfl (by repeat (first | with_reducible exact has_here | with_reducible exact has_pt | apply has_left)) rfl | exact o_loadC p3 rfl (by assumption)) ?_; refine tv (o_lss rfl rfl) ?_; refine tlm ?_; refine tl_bool (d := 14) rfl (fun h => ?_) (fun h => ?_)
    · have g14 : (x.2 < 1) := by first | exact of_decide_eq_true h | (have h2 := h; simp at h2; omega) | simpa using h
      refine tk ?_; refine tk ?_; refine tk ?_; refine tv (o_pick_t rfl (by conv => lhs; whnf)) ?_; refine tlm ?_; refine tk ?_; refine tk ?_; refine tk ?_; refine tk ?_; refine tv (o_pick_t rfl (by conv => lhs; whnf)) ?_; refine tlm ?_; refine tk ?_; refine tk ?_; refine tk ?_; refine tk ?_; refine tk ?_; refine tk ?_; refine tk ?_; refine tv (o_pick_t rfl (by conv => lhs; whnf)) ?_; refine tl_nil ?_; exact ⟨_, by first | exact (decide_eq_true (by omega)).symm | exact (decide_eq_false (by omega)).symm | (rw [decide_eq_decide]; omega), rfl, rfl, rfl, rfl⟩
    · have g14 : ¬ (x.2 < 1) := by first | exact of_decide_eq_false h | (have h2 := h; simp at h2; omega) | simpa using h
      refine tv (o_fieldAddr (o := 0) Try.underlying74 rfl rfl sz3 rfl) ?_; refine tv (by first | exact o_load p3 rfl (by repeat (first | with_reducible exact has_here | with_reducible exact has_pt | apply has_left)) rfl | exact o_loadC p3 rfl (by assumption)) ?_; refine tv (o_lss rfl rfl) ?_; refine tv (o_pick_f rfl (by conv => lhs; whnf)) ?_; refine tlm ?_; refine tl_bool (d := 19) rfl (fun h => ?_) (fun h => ?_)
      · have g19 : (x.2 < 1 ∨ x.1 < 64) := by first | exact of_decide_eq_true h | (have h2 := h; simp at h2; omega) | simpa using h
        refine tk ?_; refine tk ?_; refine tk ?_; refine tk ?_; refine tv (o_pick_t rfl (by conv => lhs; whnf)) ?_; refine tlm ?_; refine tk ?_; refine tk ?_; refine tk ?_; refine tk ?_; refine tk ?_; refine tk ?_; refine tk ?_; refine tv (o_pick_t rfl (by conv => lhs; whnf)) ?_; refine tl_nil ?_; exact ⟨_, by first | exact (decide_eq_true (by omega)).symm | exact (decide_eq_false (by omega)).symm | (rw [decide_eq_decide]; omega), rfl, rfl, rfl, rfl⟩
      · have g19 : ¬ (x.2 < 1 ∨ x.1 < 64) := by first | exact of_decide_eq_false h | (have h2 := h; simp at h2; omega) | simpa using h
        refine tv (o_fieldAddr (o := 0) Try.underlying74 rfl rfl sz3 rfl) ?_; refine tv (by first | exact o_load p3 rfl (by repeat (first | with_reducible exact has_here | with_reducible exact has_pt | apply has_left)) rfl | exact o_loadC p3 rfl (by assumption)) ?_; refine tlm ?_; refine tv (o_gtr rfl rfl) ?_; refine tv (o_pick_f rfl (by conv => lhs; whnf)) ?_; refine tlm ?_; refine tl_bool (d := 25) rfl (fun h => ?_) (fun h => ?_)
        · have g25 : (x.2 < 1 ∨ x.1 < 64 ∨ (s.ls.length : Int) * 64 < x.1) := by first | exact of_decide_eq_true h | (have h2 := h; simp at h2; omega) | simpa using h
          refine tk ?_; refine tk ?_; refine tk ?_; refine tk ?_; refine tk ?_; refine tk ?_; refine tk ?_; refine tv (o_pick_t rfl (by conv => lhs; whnf)) ?_; refine tl_nil ?_; exact ⟨_, by first | exact (decide_eq_true (by omega)).symm | exact (decide_eq_false (by omega)).symm | (rw [decide_eq_decide]; omega), rfl, rfl, rfl, rfl⟩
        · have g25 : ¬ (x.2 < 1 ∨ x.1 < 64 ∨ (s.ls.length : Int) * 64 < x.1) := by first | exact of_decide_eq_false h | (have h2 := h; simp at h2; omega) | simpa using h
          refine tv (o_fieldAddr (o := 1) Try.underlying74 rfl rfl sz3 rfl) ?_; refine tv (by first | exact o_load p3 rfl (by repeat (first | with_reducible exact has_here | with_reducible exact has_pt | apply has_left)) rfl | exact o_loadC p3 rfl (by assumption)) ?_; refine tlm ?_; refine tv (o_fieldAddr (o := 0) Try.underlying74 rfl rfl sz3 rfl) ?_; refine tv (by first | exact o_load p3 rfl (by repeat (first | with_reducible exact has_here | with_reducible exact has_pt | apply has_left)) rfl | exact o_loadC p3 rfl (by assumption)) ?_; refine tv (o_subI rfl rfl (by omega)) ?_; refine tv (o_gtr rfl rfl) ?_; refine tv (o_pick_f rfl (by conv => lhs; whnf)) ?_; refine tl_nil ?_; exact ⟨_, by first | exact (decide_eq_true (by omega)).symm | exact (decide_eq_false (by omega)).symm | (rw [decide_eq_decide]; omega), rfl, rfl, rfl, rfl⟩
  · intro ρ B hI
    obtain ⟨bb, hbb0, hE33, hE0, hE3, rfl⟩ := hI
    refine q_then_n ?_; refine tc_env (d := 33) hE33 ?_; refine tc_env (d := 0) hE0 ?_; refine tc_env (d := 3) hE3 ?_
    clear hE33 hE0 hE3
    refine tc_cond rfl (fun h => ?_) (fun h => ?_)
    · have hf := of_decide_eq_true (show decide (¬ (1 ≤ x.2 ∧ 64 ≤ x.1 ∧ x.1 ≤ (s.ls.length : Int) * 64 ∧ x.2 ≤ (s.ls.length : Int) * 64 - x.1)) = true by rw [← hbb0]; exact h)
      refine sr ?_; refine tla ?_; refine nq ?_; refine tc_ret ?_; refine q_then_r ?_
      have e : mayX (s.ls.length * 64) at_ sz x = false := decide_eq_false (by omega)
      rw [e]
      exact ⟨.bool false, _, res1 rfl rfl, Dr.sat (by repeat (first | with_reducible exact dr_refl | apply dr_keep | apply dr_drop)), rfl, rfl⟩
    · have hf : (1 ≤ x.2 ∧ 64 ≤ x.1 ∧ x.1 ≤ (s.ls.length : Int) * 64 ∧ x.2 ≤ (s.ls.length : Int) * 64 - x.1) := by have h9 := of_decide_eq_false (show decide (¬ (1 ≤ x.2 ∧ 64 ≤ x.1 ∧ x.1 ≤ (s.ls.length : Int) * 64 ∧ x.2 ≤ (s.ls.length : Int) * 64 - x.1)) = false by rw [← hbb0]; exact h); omega
      refine tc_skip ?_; refine q_then_n ?_; refine tc_seq ?_; refine tc_regq mo (by kernel_rfl) ?_; refine ql_v rfl (o_fieldAddr (o := 0) Try.underlying74 rfl rfl sz3 rfl) ?_; refine ql_v rfl (by first | exact o_load p3 rfl (by repeat (first | with_reducible exact has_here | with_reducible exact has_pt | apply has_left)) rfl | exact o_loadC p3 rfl (by assumption)) ?_; refine ql_v rfl (o_fieldAddr (o := 1) Try.underlying74 rfl rfl sz3 rfl) ?_; refine ql_v rfl (by first | exact o_load p3 rfl (by repeat (first | with_reducible exact has_here | with_reducible exact has_pt | apply has_left)) rfl | exact o_loadC p3 rfl (by assumption)) ?_; refine ql_v rfl (o_addI rfl rfl (by omega)) ?_; refine ql_v rfl (o_move (by conv => lhs; whnf)) ?_; refine ql_v rfl (o_nilCheck rfl) ?_; refine ql_v rfl (o_fieldAddr (o := 1) Try.underlying52 rfl rfl sz3 rfl) ?_; refine ql_v rfl (o_load p3 rfl (by repeat (first | assumption | apply has_left)) rfl) ?_; refine ql_v rfl (o_leq rfl rfl) ?_; refine ql_v rfl (o_move (by conv => lhs; whnf)) ?_; refine ql_bool (d := 44) rfl (fun h => ?_) (fun h => ?_)
      · have g44 : (x.1 + x.2 ≤ at_) := by first | exact of_decide_eq_true h | (have h2 := h; simp at h2; omega) | simpa using h
        refine ql_skip rfl ?_; refine ql_skip rfl ?_; refine ql_skip rfl ?_; refine ql_skip rfl ?_; refine ql_skip rfl ?_; refine ql_skip rfl ?_; refine ql_skip rfl ?_; refine ql_skip rfl ?_; refine ql_skip rfl ?_; refine ql_skip rfl ?_; refine ql_skip rfl ?_; refine ql_skip rfl ?_; refine ql_v rfl (o_pick_t rfl (by conv => lhs; whnf)) ?_; refine ql_v rfl (o_assign (by conv => lhs; whnf)) ?_; refine ql_nil ?_; refine q_then_n ?_; refine tc_ret ?_
        have e : ∀ b, b = decide (x.1 + x.2 ≤ at_ ∨ ((at_ + sz : Nat) : Int) ≤ x.1) → mayX (s.ls.length * 64) at_ sz x = b := fun b hb => by rw [hb]; unfold mayX; rw [decide_eq_decide]; omega
        exact ⟨.bool (mayX (s.ls.length * 64) at_ sz x), _, res1 rfl (congrArg Value.bool (e _ (by first | exact (decide_eq_true (by omega)).symm | exact (decide_eq_false (by omega)).symm | (rw [decide_eq_decide]; omega)))).symm, Dr.sat (by repeat (first | with_reducible exact dr_refl | apply dr_keep | apply dr_drop)), rfl, rfl⟩
      · have g44 : ¬ (x.1 + x.2 ≤ at_) := by first | exact of_decide_eq_false h | (have h2 := h; simp at h2; omega) | simpa using h
        refine ql_v rfl (o_fieldAddr (o := 0) Try.underlying74 rfl rfl sz3 rfl) ?_; refine ql_v rfl (by first | exact o_load p3 rfl (by repeat (first | with_reducible exact has_here | with_reducible exact has_pt | apply has_left)) rfl | exact o_loadC p3 rfl (by assumption)) ?_; refine ql_v rfl (o_move (by conv => lhs; whnf)) ?_; refine ql_v rfl (o_nilCheck rfl) ?_; refine ql_v rfl (o_fieldAddr (o := 1) Try.underlying52 rfl rfl sz3 rfl) ?_; refine ql_v rfl (o_load p3 rfl (by repeat (first | assumption | apply has_left)) rfl) ?_; refine ql_v rfl (o_move (by conv => lhs; whnf)) ?_; refine ql_v rfl (o_nilCheck rfl) ?_; refine ql_v rfl (o_fieldAddr (o := 2) Try.underlying52 rfl rfl sz3 rfl) ?_; refine ql_v rfl (o_load p3 rfl (by repeat (first | assumption | apply has_left)) rfl) ?_; refine ql_v rfl (o_addI rfl rfl (by omega)) ?_; refine ql_v rfl (o_geq rfl rfl) ?_; refine ql_v rfl (o_pick_f rfl (by conv => lhs; whnf)) ?_; refine ql_v rfl (o_assign (by conv => lhs; whnf)) ?_; refine ql_nil ?_; refine q_then_n ?_; refine tc_ret ?_
        have e : ∀ b, b = decide (x.1 + x.2 ≤ at_ ∨ ((at_ + sz : Nat) : Int) ≤ x.1) → mayX (s.ls.length * 64) at_ sz x = b := fun b hb => by rw [hb]; unfold mayX; rw [decide_eq_decide]; omega
        exact ⟨.bool (mayX (s.ls.length * 64) at_ sz x), _, res1 rfl (congrArg Value.bool (e _ (by first | exact (decide_eq_true (by omega)).symm | exact (decide_eq_false (by omega)).symm | (rw [decide_eq_decide]; omega)))).symm, Dr.sat (by repeat (first | with_reducible exact dr_refl | apply dr_keep | apply dr_drop)), rfl, rfl⟩
theorem record_c {A : SP} {a : Option Addr} {c m p : Nat} {xs : List Nat} (hr : Rs A a (bys xs) := by repeat (first | assumption | with_reducible exact rs_sl | with_reducible exact rs_pt0 | exact rs_none | apply Rs.left)) (hm : xs.length = m := by first | assumption | rfl) (hb : ∀ x ∈ xs, x < 256 := by assumption) (hp : p < 9223372036854775808 := by omega) (hml : m ≤ 1099511627776 := by omega) :
    Fn Try.prog 55 #[.int .i64 (p : Nat), .slice a m c] (A) (fun r B => ∃ a2 c2, r = .slice a2 (24 + up8 m) c2 ∧ 24 + up8 m ≤ c2 ∧ B = A * Sl 1 (.slice a2 (24 + up8 m) c2) (24 + up8 m) (bys (recS p xs))) := by
  refine fn_enterW (args := [.int .i64 (p : Nat), .slice a m c]) Try.func55 rfl Try.ntmps55 (by simp) ?_
  obtain ⟨Z, hZ⟩ : ∃ Z, crc 0 (recH p m ++ xs) = Z := ⟨_, rfl⟩
  have hZb : ∀ x ∈ recH p m ++ xs, x < 256 := fun x hx => by rcases List.mem_append.1 hx with h1 | h1; exact recH_b _ _ x h1; exact hb x h1
  have hZl : Z < 4294967296 := hZ ▸ crc_lt (by decide) hZb
  obtain ⟨Y, hY⟩ : ∃ Y, recH p m ++ le 8 Z ++ xs = Y := ⟨_, rfl⟩
  have hYl : Y.length = 24 + m := by rw [← hY, List.length_append, List.length_append, recH_len, le_length, hm]
  have hYr : recS p xs = Y ++ List.replicate (pad8 m) 0 := by rw [← hY, ← hZ, ← hm]; exact recS_eq _ _
  refine sr ?_; refine tla ?_; refine nq ?_; refine sr ?_; refine tlm ?_; refine tv (by first | exact o_conv64 Try.underlying3 Try.underlying89 rfl | exact o_conv Try.underlying3 Try.underlying89 rfl) ?_; refine tl_env (d := 7) (v := .int .u64 ((p : Nat) : Int)) (congrArg (fun z : Nat => Value.int .u64 (z : Int)) (Nat.mod_eq_of_lt (by omega))) ?_; refine tl_c rfl (o_call bd69 rfl (Put64_c (xs := []) (v := p))) ?_; rintro _ _ ⟨a8, c8, rfl, hc8, rfl⟩; refine tlm ?_; refine tv (o_len Try.underlying60 rfl) ?_; refine tv (by first | exact o_conv64 Try.underlying3 Try.underlying89 rfl | exact o_conv Try.underlying3 Try.underlying89 rfl) ?_; refine tl_env (d := 11) (v := .int .u64 ((m : Nat) : Int)) (congrArg (fun z : Nat => Value.int .u64 (z : Int)) (Nat.mod_eq_of_lt (by omega))) ?_; refine tl_c rfl (o_call bd69 rfl (Put64_c (m := 8) (xs := [] ++ le 8 p) (v := m) (hr := rs_sl) (hm := by rw [List.nil_append, le_length]))) ?_; rintro _ _ ⟨a12, c12, rfl, hc12, rfl⟩; refine tla ?_; refine nq ?_; refine sr ?_; refine tlm ?_; refine tlm ?_; refine tlm ?_; refine tl_x rfl (o_buildSliceL (k := 1) (vs := [.slice a12 (8 + 8) c12, .slice a m c]) (l := [.slice a12 (8 + 8) c12, .slice a m c]) Try.underlying68 sz60 z60 rfl rfl (by decide) (by decide) (by intro v hv; simp at hv; rcases hv with rfl | rfl <;> rfl) rfl) ?_; rintro _ _ ⟨b16, rfl, rfl⟩; refine tl_c rfl (o_call bd74 rfl (Sum_2 (xs := recH p m) (ys := xs) rs_sl (recH_len _ _) (recH_b _ _) (by decide) hr.left.left hm hb hml)) ?_
  rintro _ _ ⟨rfl, rfl⟩; refine tv (by first | exact o_conv64 Try.underlying137 Try.underlying89 rfl | exact o_conv Try.underlying137 Try.underlying89 rfl) ?_; refine tl_env (d := 18) (v := .int .u64 ((crc 0 (recH p m ++ xs) : Nat) : Int)) (congrArg (fun z : Nat => Value.int .u64 (z : Int)) (Nat.mod_eq_of_lt (by omega))) ?_; refine tl_c rfl (o_call bd69 rfl (Put64_c)) ?_; rintro _ _ ⟨a19, c19, rfl, hc19, rfl⟩; refine tla ?_; refine nq ?_; refine sr ?_; refine tlm ?_; refine tlm ?_; refine tl_x rfl (o_apR Try.underlying60 Try.underlying60 sz5 by5 z5 rfl (by decide) (by decide) rfl rfl (by repeat (first | with_reducible exact ct_here | apply ct_left)) (by repeat (first | assumption | with_reducible exact rs_sl | with_reducible exact rs_pt0 | exact rs_none | apply Rs.left)) (by first | omega | (simp only [bys_length, ints_length, wds_length, bos_length, List.length_append, List.length_take, List.length_drop, List.length_singleton]; omega)) (by first | exact bys_all _ | exact ints_all _ | exact wds_all _ | exact bos_all _ | rfl) (by first | omega | (simp only [bys_length, ints_length, wds_length, bos_length, List.length_append, List.length_take, List.length_drop, List.length_singleton]; omega)) (by first | exact bys_sn _ _ | exact ints_sn _ _ | exact wds_sn _ _ | exact bos_sn _ _ | exact (bys_append _ _).symm | rfl)) ?_; rintro _ _ ⟨a22, c22, rfl, hc22, rfl⟩; refine tla ?_; refine nq ?_; refine tc_seq ?_; refine tc_block ?_
  refine tc_pre (A' := A * Sl 1 (.slice a22 (24 + m + 0) c22) (24 + m + 0) (bys (Y ++ List.replicate 0 0))) (fun g w h => by have h2 := Dr.sat (A' := A * Sl 1 (.slice a22 (8 + 8 + 8 + m) c22) (8 + 8 + 8 + m) (bys ([] ++ le 8 p ++ le 8 m ++ le 8 (crc 0 (recH p m ++ xs))) ++ bys xs)) (by repeat (first | with_reducible exact dr_refl | apply dr_keep | apply dr_drop)) g w h; rw [hZ, ← bys_append, show [] ++ le 8 p ++ le 8 m ++ le 8 Z ++ xs = Y from hY] at h2; rw [show 24 + m + 0 = 8 + 8 + 8 + m by omega, List.replicate_zero, List.append_nil]; exact h2) ?_; refine tc_loop (fun kk ρ BB => ∃ (i : Nat) (a5 : Option Addr) (c5 : Nat), (i ≤ pad8 m) ∧ (24 + m + i ≤ c5) ∧ kk = pad8 m - i ∧ ρ 5 = .slice a5 (24 + m + i) c5 ∧ Dr BB (A * Sl 1 (.slice a5 (24 + m + i) c5) (24 + m + i) (bys (Y ++ List.replicate i 0)))) (m := pad8 m - (0)) ?_ ?_
  · exact ⟨0, a22, c22, by omega, by omega, rfl, by rw [show 24 + m + 0 = 8 + 8 + 8 + m by omega]; rfl, (by repeat (first | with_reducible exact dr_refl | apply dr_keep | apply dr_drop))⟩
  · intro k ρ B hI
    obtain ⟨i, a5, c5, hp0, hp1, hkk1, hE5, hBA⟩ := hI
    refine tc_pre hBA.sat ?_
    clear hBA
    refine tc_env (d := 5) hE5 ?_
    clear hE5
    refine tc_seq ?_; refine sr ?_; refine tlm ?_; refine tv (o_len Try.underlying60 rfl) ?_; refine tv (o_remN (b := 8) rfl rfl (by decide)) ?_; refine tl_env (d := 25) (v := .int .i64 (((24 + m + i) % 8 : Nat) : Int)) (by first | rfl | (show Value.int .i64 _ = _; congr 1; omega)) ?_; refine tv (o_nei rfl rfl) ?_; refine nq ?_; refine tc_cond rfl (fun h => ?_) (fun h => ?_)
    · have hi : i < pad8 m := by have h9 : (24 + m + i) % 8 ≠ 0 := (by first | omega | (simp at h; omega)); unfold pad8 at *; omega
      have hi8 : i < 8 := by have : pad8 m < 8 := (by unfold pad8; omega); omega
      refine tc_skip ?_; refine q_then_n ?_; refine tc_block ?_; refine tc_reg ?_; refine tlm ?_; refine tl_x rfl (o_buildSliceL (k := 1) (vs := bys [0]) (l := bys [0]) Try.underlying60 sz5 z5 rfl rfl (by decide) (by decide) (by intro v hv; simp only [bys, b8, List.map_cons, List.map_nil, List.mem_cons, List.not_mem_nil, or_false] at hv; rcases hv with rfl; rfl) rfl) ?_; rintro _ _ ⟨b28, rfl, rfl⟩; refine tl_x rfl (o_apB Try.underlying60 Try.underlying60 sz5 by5 z5 rfl (by decide) (by decide) rfl rfl rfl (by repeat (first | with_reducible exact ct_here | apply ct_left)) rfl rfl (by omega) (show _ = bys (Y ++ List.replicate i 0 ++ [0]) by rw [← bys_append])) ?_; rintro _ _ ⟨a29, c29, rfl, hc29, rfl⟩; refine tla ?_; refine tl_nil ?_; refine q_block_n (q_then_n ?_); exact ⟨_, by omega, i + 1, a29, c29, by omega, by omega, rfl, rfl, by rw [List.replicate_succ', ← List.append_assoc]; repeat (first | with_reducible exact dr_refl | apply dr_keep | apply dr_drop)⟩
    · obtain rfl : i = pad8 m := by have h9 : (24 + m + i) % 8 = 0 := (by first | omega | (simp at h; omega)); unfold pad8 at *; omega
      refine tc_exit ?_; refine q_then_e (q_then_e (q_block_x (q_then_n ?_))); refine sr ?_; refine tlm ?_; refine tla ?_; refine nq ?_; refine tc_ret ?_
      rw [hYr, show 24 + up8 m = 24 + m + pad8 m by unfold up8; omega]
      exact ⟨_, _, res1 rfl rfl, fun _ _ h => h, a5, c5, rfl, hp1, rfl⟩
end Go.Vl

set_option linter.unusedVariables false
set_option linter.unusedSimpArgs false
namespace Go.Vl
open Go Go.Proofs
/-! ### Cells of records, k each -/
section
variable {α : Type} {f : α → List Value} {k : Nat}
theorem fm_length : ∀ {l : List α} (_ : ∀ a ∈ l, (f a).length = k), (l.flatMap f).length = l.length * k
  | [], _ => by simp
  | a :: l, h => by
    rw [List.flatMap_cons, List.length_append, h a (by simp), fm_length (fun x hx => h x (List.mem_cons_of_mem _ hx)), List.length_cons, Nat.add_mul]; omega
theorem fm_drop : ∀ {l : List α} {i : Nat} (_ : ∀ a ∈ l, (f a).length = k), (l.flatMap f).drop (i * k) = (l.drop i).flatMap f
  | [], i, _ => by simp
  | a :: l, 0, _ => by simp
  | a :: l, i + 1, h => by
    have e : (i + 1) * k = (f a).length + i * k := by rw [h a (by simp), Nat.add_mul]; omega
    rw [e, List.flatMap_cons, List.drop_length_add_append, fm_drop (fun x hx => h x (List.mem_cons_of_mem _ hx)), List.drop_succ_cons]
theorem fm_take : ∀ {l : List α} {i : Nat} (_ : ∀ a ∈ l, (f a).length = k), (l.flatMap f).take (i * k) = (l.take i).flatMap f
  | [], i, _ => by simp
  | a :: l, 0, _ => by simp
  | a :: l, i + 1, h => by
    have e : (i + 1) * k = (f a).length + i * k := by rw [h a (by simp), Nat.add_mul]; omega
    rw [e, List.flatMap_cons, List.take_length_add_append, fm_take (fun x hx => h x (List.mem_cons_of_mem _ hx)), List.take_succ_cons, List.flatMap_cons]
theorem fm_at {l : List α} {i : Nat} (h : ∀ a ∈ l, (f a).length = k) (hi : i < l.length) : ((l.flatMap f).drop (i * k)).take k = f l[i] := by
  rw [fm_drop h, List.drop_eq_getElem_cons hi, List.flatMap_cons]
  have := h _ (List.getElem_mem hi)
  conv => lhs; arg 1; rw [← this]
  rw [List.take_left]
theorem fm_sn (l : List α) (a : α) : l.flatMap f ++ f a = (l ++ [a]).flatMap f := by simp
theorem fm_oneC {l : List α} (h : ∀ a ∈ l, (f a).all oneC = true) : (l.flatMap f).all oneC = true := by
  rw [List.all_eq_true]
  intro u hu
  obtain ⟨a, ha, hu⟩ := List.mem_flatMap.1 hu
  exact List.all_eq_true.1 (h a ha) u hu
end
/-! ### Iterated assertions -/
section
variable {α : Type} {f : α → SP}
def Bs (f : α → SP) : List α → SP
  | [] => emp
  | a :: l => Bs f l * f a
theorem bs_nil : Bs f [] = emp := rfl
theorem bs_cons (a : α) (l : List α) : Bs f (a :: l) = Bs f l * f a := rfl
theorem bs_append : ∀ (l m : List α), Bs f (l ++ m) = Bs f l * Bs f m
  | [], m => (emp_star _).symm
  | a :: l, m => by rw [List.cons_append, bs_cons, bs_cons, bs_append l m, star_swap]
theorem bs_snoc (l : List α) (a : α) : Bs f (l ++ [a]) = Bs f l * f a := by rw [bs_append, bs_cons, bs_nil, emp_star]
theorem bs_get : ∀ {l : List α} {i : Nat} (hi : i < l.length), ∃ R, Bs f l = R * f l[i] ∧ ∀ y, Bs f (l.set i y) = R * f y
  | a :: l, 0, _ => ⟨Bs f l, rfl, fun _ => rfl⟩
  | a :: l, i + 1, hi => by
    obtain ⟨R, h1, h2⟩ := bs_get (l := l) (i := i) (by simpa using hi)
    refine ⟨R * f a, ?_, fun y => ?_⟩
    · simp only [bs_cons, List.getElem_cons_succ]; rw [h1, star_swap]
    · simp only [List.set_cons_succ, bs_cons]; rw [h2, star_swap]
end
theorem rs_cutC {A : SP} {a : Option Addr} {cap l : Nat} {X : List Nat} (h : Rs A a (bys X)) (hx : X.length ≤ cap) : Rs A (cutAddr a cap l 1) (bys (X.drop l)) := by
  have := rs_cut (l := l) (k := 1) (cap := cap) h (by rw [bys_length]; omega)
  rw [Nat.mul_one] at this
  unfold bys at this ⊢
  rwa [← List.map_drop] at this
theorem bys_takeG (xs : List Nat) (n : Nat) : (bys xs).take n = bys (xs.take n) := by simp [bys, List.map_take]
theorem rs_mid {A : SP} {a : Option Addr} {cap l m : Nat} {X : List Nat} (h : Rs A a (bys X)) (hx : X.length ≤ cap) : Rs A (cutAddr a cap l 1) (bys ((X.drop l).take m)) := by
  rw [← bys_takeG]; exact (rs_cutC h hx).sub m
end Go.Vl

set_option linter.unusedVariables false
set_option linter.unusedSimpArgs false
namespace Go.Vl
open Go Go.Proofs
/-- A line: where its contents' list lies, where each content lies and its words; the mark. -/
structure RL where
  v : Value
  rows : List (Value × List Nat)
  mark : Int
def RL.l (x : RL) : LineS := ⟨x.rows.map Prod.snd, x.mark⟩
def rcl (x : RL) : List Value := [x.v, .int .i64 x.mark]
def rowR (p : Value × List Nat) : SP := SlR 1 p.1 64 (bys (lb p.2))
def rlR (x : RL) : SP := Sl 1 x.v x.rows.length (x.rows.map Prod.fst) * Bs rowR x.rows
def rdcs (lv : Value) (s : DevS) (av : Value) : List Value := [.int .i64 ((s.ls.length * 64 : Nat) : Int), lv, .int .i64 s.ops, av, .int .i64 s.cnt, .bool s.off]
/-- The device, its parts told. -/
def RDevC (r : Nat) (lv : Value) (rls : List RL) (av : Value) (kvs : List Value) (s : DevS) : SP :=
  pt r (cl (rdcs lv s av) 98) * Sl 2 lv s.ls.length (rls.flatMap rcl) * Bs rlR rls * ArmsR av kvs s.arms
/-- The device. -/
def RDev (r : Nat) (s : DevS) : SP := fun h => WfD s ∧ ∃ lv rls av kvs, rls.map RL.l = s.ls ∧ kvs.length = s.arms.length ∧ RDevC r lv rls av kvs s h
section
variable {P : Program} {n : Nat} {Q : Post} {ρ : Env} {r : Nat} {s : DevS} {R : SP}
end
section
variable {r : Nat} {s : DevS} {R F : SP} {lv av : Value} {rls : List RL} {kvs : List Value}
/-- What is read of the device. -/
structure RdevR (A : SP) (r : Nat) (lv : Value) (rls : List RL) (av : Value) (s : DevS) : Prop where
  wf : WfD s
  len : rls.length = s.ls.length
  at_ : ∀ i (h : i < rls.length) (h' : i < s.ls.length), rls[i].l = s.ls[i]
  d : Rs A (some ⟨r, 0, none⟩) (rdcs lv s av)
  lv : ∃ b o c, lv = .slice (some ⟨b, o, none⟩) s.ls.length c ∧ s.ls.length ≤ c ∧ Rs A (some ⟨b, o, none⟩) (rls.flatMap rcl)
  all : ∀ i (h : i < rls.length), ∃ b o c, rls[i].v = .slice (some ⟨b, o, none⟩) rls[i].rows.length c ∧ rls[i].rows.length ≤ c ∧ Rs A (some ⟨b, o, none⟩) (rls[i].rows.map Prod.fst)
  row : ∀ i (h : i < rls.length) j (h' : j < rls[i].rows.length), ∃ b o c, rls[i].rows[j].1 = .slice (some ⟨b, o, none⟩) 64 c ∧ 64 ≤ c ∧ Rs A (some ⟨b, o, none⟩) (bys (lb rls[i].rows[j].2))
theorem RdevR.left {A X : SP} (h : RdevR A r lv rls av s) : RdevR (A * X) r lv rls av s :=
  ⟨h.wf, h.len, h.at_, h.d.left, let ⟨b, o, c, e1, e2, e3⟩ := h.lv; ⟨b, o, c, e1, e2, e3.left⟩, fun i hi => let ⟨b, o, c, e1, e2, e3⟩ := h.all i hi; ⟨b, o, c, e1, e2, e3.left⟩,
    fun i hi j hj => let ⟨b, o, c, e1, e2, e3⟩ := h.row i hi j hj; ⟨b, o, c, e1, e2, e3.left⟩⟩
theorem RdevR.rows {A : SP} (h : RdevR A r lv rls av s) {i : Nat} (hi : i < rls.length) (hi' : i < s.ls.length) : rls[i].rows.length = s.ls[i].st.length := by
  rw [← h.at_ i hi hi']; simp [RL.l]
theorem RdevR.snd {A : SP} (h : RdevR A r lv rls av s) {i j : Nat} (hi : i < rls.length) (hi' : i < s.ls.length) (hj : j < rls[i].rows.length) : rls[i].rows[j].2 = s.ls[i].st[j]'(by rw [← h.rows hi hi']; exact hj) := by
  have := h.at_ i hi hi'
  have e : s.ls[i].st = rls[i].rows.map Prod.snd := by rw [← this]; rfl
  simp only [e, List.getElem_map]
theorem RdevR.mark {A : SP} (h : RdevR A r lv rls av s) {i : Nat} (hi : i < rls.length) (hi' : i < s.ls.length) : rls[i].mark = s.ls[i].mark := by rw [← h.at_ i hi hi']; rfl
end
end Go.Vl

set_option linter.unusedVariables false
set_option linter.unusedSimpArgs false
namespace Go.Vl
open Go Go.Proofs
section
variable {A : SP} {r : Nat} {lv av : Value} {rls : List RL} {s : DevS}
theorem RdevR.pos (h : RdevR A r lv rls av s) {i : Nat} (hi : i < rls.length) : 0 < rls[i].rows.length := by
  have h' : i < s.ls.length := by rw [← h.len]; exact hi
  rw [h.rows hi h']
  exact List.length_pos_iff.2 (h.wf.line _ (List.getElem_mem h')).ne
theorem RdevR.small (h : RdevR A r lv rls av s) {i : Nat} (hi : i < rls.length) : rls[i].rows.length ≤ 2199023255552 := by
  have h' : i < s.ls.length := by rw [← h.len]; exact hi
  rw [h.rows hi h']
  exact (h.wf.line _ (List.getElem_mem h')).small
/-- The content that is seen. -/
theorem RdevR.top (h : RdevR A r lv rls av s) {i : Nat} (hi : i < rls.length) (hi' : i < s.ls.length) : ∃ b o c, (rls[i].rows.map Prod.fst)[rls[i].rows.length - 1]? = some (.slice (some ⟨b, o, none⟩) 64 c) ∧ 64 ≤ c ∧ Rs A (some ⟨b, o, none⟩) (bys (lb (seenL s.ls[i]))) := by
  have hp := h.pos hi
  obtain ⟨b, o, c, e1, e2, e3⟩ := h.row i hi (rls[i].rows.length - 1) (by omega)
  refine ⟨b, o, c, ?_, e2, ?_⟩
  · rw [List.getElem?_map, List.getElem?_eq_getElem (by omega)]; simp [e1]
  · rw [h.snd hi hi' (by omega)] at e3
    have e : seenL s.ls[i] = s.ls[i].st[rls[i].rows.length - 1]'(by rw [← h.rows hi hi']; omega) := by
      unfold seenL; simp only [← h.rows hi hi']
      simp [List.getD, show rls[i].rows.length - 1 < s.ls[i].st.length by rw [← h.rows hi hi']; omega]
    rw [e]; exact e3
end
attribute [local irreducible] Sl pt ro imgS
end Go.Vl

set_option linter.unusedVariables false
set_option linter.unusedSimpArgs false
namespace Go.Vl
open Go Go.Proofs
theorem acs_at0 {kvs : List Value} {ars : List (Int × List Int)} {i : Nat} (h : kvs.length = ars.length) (hi : i < ars.length) : (acs kvs ars)[i * 2 + 0]? = some (.int .i64 ars[i].1) := by
  have e := acs_at h hi
  have := congrArg (fun l => l[0]?) e
  simpa [List.getElem?_take, List.getElem?_drop] using this
theorem acs_at1 {kvs : List Value} {ars : List (Int × List Int)} {i : Nat} (h : kvs.length = ars.length) (hi : i < ars.length) : (acs kvs ars)[i * 2 + 1]? = some (kvs[i]'(by omega)) := by
  have e := acs_at h hi
  have := congrArg (fun l => l[1]?) e
  simpa [List.getElem?_take, List.getElem?_drop] using this
end Go.Vl

set_option linter.unusedVariables false
set_option linter.unusedSimpArgs false
namespace Go.Vl
open Go Go.Proofs
theorem Foc.words {A A' : SP} {hvs : List Value} {held : List (List Nat)} (h : Foc A (Words hvs held) (Words hvs held) A') (hl : hvs.length = held.length) {g : Gh} {w : World} (hs : sat g w A) :
    ∀ i (hi : i < held.length), ∃ a c, hvs[i]? = some (.slice a held[i].length c) ∧ Rd A a (wds held[i]) := fun i hi => by
  obtain ⟨R, hA, _⟩ := h
  obtain ⟨S, h1, _⟩ := words_get hl hi
  rw [h1, ← star_assoc] at hA
  obtain ⟨a, c, e, _, _, hr⟩ := sl_have' hA hs
  exact ⟨a, c, by rw [List.getElem?_eq_getElem (by omega), e], hr⟩
/-- What PmemLasts looks at, of a book and a device behind a loss of power. -/
structure Lasts (P : PlS) (s2 : DevS) : Prop where
  len : s2.ls.length = P.marks.length
  wf : WfD s2
  wfp : WfD P.s
  seen : ∀ i (h : i < P.seen.length), nm (((imgS P.s).drop (8 * i)).take 8) = P.seen[i]
  held : ∀ i (h : i < P.held.length), nm (((imgS s2).drop (8 * i)).take 8) ∈ P.held[i]
  last : ∀ i (h : i < P.sure.length) (h' : i < P.last.length), P.sure[i] = true → nm (((imgS s2).drop (8 * i)).take 8) = P.last[i]
end Go.Vl

set_option linter.unusedVariables false
set_option linter.unusedSimpArgs false
namespace Go.Vl
open Go Go.Proofs
/-- The book tells the device. -/
structure InvL (P : PlS) (w : Nat) (l : LineS) : Prop where
  seen : (seenL l).getD (w % 8) 0 = P.seen.getD w 0
  held : ∀ σ ∈ l.st, σ.getD (w % 8) 0 ∈ P.held.getD w []
  last : P.sure.getD w false = true → ∀ σ ∈ l.st, σ.getD (w % 8) 0 = P.last.getD w 0
  mark : P.marks.getD (w / 8) 0 = 1 → l.mark = (l.st.length : Int) - 1
def Inv (P : PlS) : Prop := ∀ w l, w < P.seen.length → P.s.ls[w / 8]? = some l → InvL P w l
end Go.Vl

set_option linter.unusedVariables false
set_option linter.unusedSimpArgs false
namespace Go.Vl
open Go Go.Proofs
instance : Inhabited StepC := ⟨⟨0, 0, .bool false, 0, .bool false, .bool false, .bool false⟩⟩
end Go.Vl

set_option linter.unusedVariables false
set_option linter.unusedSimpArgs false
namespace Go.Vl
open Go Go.Proofs
section
variable {P : Program} {n : Nat} {ρ : Env} {dst : Option Nat} {ty : TypeId} {pos : String} {after : Array Edge} {gd : Option (Nat × Bool)} {A : SP}
end
def rdT (n : Nat) (I : List Nat) : List Int × Int := if I.take 64 = sbB [n, 128, 32768, 32896, (n - 32896) / 256, 0] then ([(n : Int), ((128 : Nat) : Int), ((32768 : Nat) : Int), ((32896 : Nat) : Int), (((n - 32896) / 256 : Nat) : Int)], 0) else ([0, 0, 0, 0, 0], 100)
end Go.Vl

set_option linter.unusedVariables false
set_option linter.unusedSimpArgs false
namespace Go.Vl
open Go Go.Proofs
def wk1 : DevS := (bytesP 60 [1, 1, 1, 1, 1, 1, 1, 1] (newS 2)).2
def wk2 : DevS := (pubP 8 258 wk1).2
def wk3 : DevS := (crS [] wk2).2
def wk4 : DevS := { wk3 with off := false }
def nk1 : DevS := (crS [] (newS 1)).2
end Go.Vl

set_option linter.unusedVariables false
set_option linter.unusedSimpArgs false
namespace Go.Vl
open Go Go.Proofs
/-- The mark of a place. -/
def mk (i k : Nat) : Nat := (i * 31 + k * 7 + 1) % 256
/-- The marks of a list. -/
def mks (i n : Nat) : List Nat := (List.range n).map (mk i)
def mkL (j : Nat) (l : List Nat) : List Nat := mks j l.length
/-- Lists that bear their marks; the first of them is number j. -/
def PM : Nat → List Value → List Nat → SP
  | j, v :: vs, n :: ns => PM (j + 1) vs ns * Sl 1 v n (bys (mks j n))
  | _, [], [] => emp
  | _, _, _ => pure_ False
/-- Such lists, and what they were grown to. -/
def GP : Nat → List Value → List Value → List Nat → SP
  | j, v :: vs, g :: gs, n :: ns => GP (j + 1) vs gs ns * Gr v n (bys (mks j n)) g (n + 70) (bys (mks j (n + 70)))
  | _, [], [], [] => emp
  | _, _, _, _ => pure_ False
attribute [local irreducible] Sl SlR pt ro Parts Gr
end Go.Vl

set_option linter.unusedVariables false
set_option linter.unusedSimpArgs false
namespace Go.Vl
open Go Go.Proofs
/-- What Read and Root answer. -/
def rdA (s : DevS) : List Int × Int := if s.off = true then ([0, 0, 0, 0, 0], 5) else if 578 ≤ s.ls.length then rdT (s.ls.length * 64) (imgS s) else ([0, 0, 0, 0, 0], 100)
def rootA (s : DevS) : Nat × Int := if (rdA s).2 ≠ 0 then (0, (rdA s).2) else wordP 64 s
end Go.Vl

set_option linter.unusedVariables false
set_option linter.unusedSimpArgs false
namespace Go.Vl
open Go Go.Proofs
theorem old_heap' {W w : World} {g : Gh} (h : sat g w (old W)) {k : Nat} (hk : k < W.heap.size) : w.heap[k]? = W.heap[k]? := by
  obtain ⟨x, rfl, hx⟩ := h.hp
  have := Array.getElem?_eq_getElem hk
  rw [this]; exact hx _ _ true (by simp [this])
theorem cell_old' {W : World} {b off : Nat} {v : Value} (h : W.cell? ⟨b, off, none⟩ = some v) : Cell (old W) b off v := fun g w hs => by
  have hb : b < W.heap.size := by
    rcases Nat.lt_or_ge b W.heap.size with h1 | h1
    · exact h1
    · exfalso
      have : W.heap[b]? = none := Array.getElem?_eq_none h1
      simp [World.cell?, this] at h
  have := old_heap' hs hb
  rw [← h]; simp only [World.cell?, this]
theorem rs_old {W : World} {a : Addr} {xs : List Value} (h : ∀ i v, xs[i]? = some v → W.cell? (a.add i) = some v) : Rs (old W) (some a) xs := by
  cases xs with
  | nil => exact rs_nil
  | cons x l =>
    obtain ⟨b, off, spot⟩ := a
    have h0 := h 0 x rfl
    have hspot : spot = none := by simpa [Addr.add] using World.cell?_spot h0
    subst hspot
    refine fun g w hs i v hv => ⟨b, off, rfl, ?_⟩
    have := h i v hv
    rw [WideShapes.add_plain] at this
    exact cell_old' this g w hs
/-- Whatever lies there as a value of type t, by the argument's own reading, r holds of. -/
def Rdb {α : Type} (P : Program) (W : World) (t : TypeId) (r : List Value → α → Prop) : Prop :=
  ∀ (H : Type) (enc : TypeId × Value → H) (spare : Nat → Bool) (held : Bool) (fuel : Nat) (cs : List Value) (d : DataW H) (pl : List MemPlace),
    DataW.trod enc P W 0 spare held fuel t cs = some (d, pl) → (∀ n ∈ d.weights P t, n ≤ reachBytes) → ∃ x, r cs x
theorem Rdb.mono {α β : Type} {P : Program} {W : World} {t : TypeId} {r : List Value → α → Prop} {q : List Value → β → Prop} (h : Rdb P W t r) (k : ∀ cs x, r cs x → ∃ y, q cs y) : Rdb P W t q :=
  fun H enc sp hd fu cs d pl h1 h2 => by obtain ⟨x, hx⟩ := h H enc sp hd fu cs d pl h1 h2; exact k cs x hx
def PInt (k : IntKind) (cs : List Value) (n : Int) : Prop := cs = [.int k n] ∧ (Lit.int k n).wf = true
def PBool (cs : List Value) (b : Bool) : Prop := cs = [.bool b]
/-- A slice: its elements' cells, and what each is. -/
def PSl {α : Type} (A : SP) (k b : Nat) (r : List Value → α → Prop) (cs : List Value) (xs : List α) : Prop :=
  ∃ (a : Option Addr) (cap : Nat) (Cs : List (List Value)), cs = [.slice a xs.length cap] ∧ xs.length ≤ cap ∧ xs.length * b ≤ reachBytes ∧ Cs.length = xs.length ∧ (∀ i (h : i < xs.length) (h' : i < Cs.length), Cs[i].length = k ∧ r Cs[i] xs[i]) ∧ Rs A a Cs.flatten
theorem flat_at {k : Nat} : ∀ {Cs : List (List Value)} (_ : ∀ c ∈ Cs, c.length = k) {i j : Nat} (_ : j < k) (hi : i < Cs.length), Cs.flatten[i * k + j]? = Cs[i][j]?
  | c :: Cs, h, 0, j, hj, _ => by
    rw [Nat.zero_mul, Nat.zero_add, List.flatten_cons, List.getElem?_append_left (by rw [h c (by simp)]; exact hj)]; rfl
  | c :: Cs, h, i + 1, j, hj, hi => by
    have hc := h c (by simp)
    rw [List.flatten_cons, List.getElem?_append_right (by rw [hc, Nat.add_mul]; omega), hc, show (i + 1) * k + j - k = i * k + j by rw [Nat.add_mul]; omega]
    exact flat_at (fun x hx => h x (List.mem_cons_of_mem _ hx)) hj (by simpa using hi)
theorem flat_length {k : Nat} : ∀ {Cs : List (List Value)} (_ : ∀ c ∈ Cs, c.length = k), Cs.flatten.length = Cs.length * k
  | [], _ => by simp
  | c :: Cs, h => by
    rw [List.flatten_cons, List.length_append, h c (by simp), flat_length (fun x hx => h x (List.mem_cons_of_mem _ hx)), List.length_cons, Nat.add_mul]; omega
theorem flat1 {α : Type} {r : List Value → α → Prop} {f : α → Value} : ∀ {Cs : List (List Value)} {xs : List α} (_ : Cs.length = xs.length) (_ : ∀ i (h : i < xs.length) (h' : i < Cs.length), Cs[i] = [f xs[i]]), Cs.flatten = xs.map f
  | [], [], _, _ => rfl
  | c :: Cs, x :: xs, hl, h => by
    have h0 := h 0 (by simp) (by simp)
    simp only [List.getElem_cons_zero] at h0
    rw [List.flatten_cons, h0, flat1 (r := r) (f := f) (Cs := Cs) (xs := xs) (by simpa using hl) (fun i hi hi' => h (i + 1) (by simpa using hi) (by simpa using hi'))]; rfl
/-- Bytes. -/
def PBys (A : SP) (cs : List Value) (xs : List Nat) : Prop := ∃ a cap, cs = [.slice a xs.length cap] ∧ xs.length ≤ cap ∧ xs.length ≤ 140737488351232 ∧ Rs A a (bys xs) ∧ ∀ x ∈ xs, x < 256
def PInts (A : SP) (cs : List Value) (xs : List Int) : Prop := ∃ a cap, cs = [.slice a xs.length cap] ∧ xs.length ≤ cap ∧ xs.length ≤ 17592186043904 ∧ Rs A a (ints xs) ∧ ∀ x ∈ xs, -9223372036854775808 ≤ x ∧ x ≤ 9223372036854775807
theorem i64_wf {x : Int} (h : (Lit.int .i64 x).wf = true) : -9223372036854775808 ≤ x ∧ x ≤ 9223372036854775807 := Go.bounds_i64 h
end Go.Vl

set_option linter.unusedVariables false
set_option linter.unusedSimpArgs false
namespace Go.Vl
open Go Go.Proofs
abbrev ub {H : Type} (d : DataW H) : Nat := Go.Proofs.Ytndfopmdkcnkgaa.Rows.uptoBulk d
abbrev ubs {H : Type} (l : List (DataW H)) : Nat := Go.Proofs.Ytndfopmdkcnkgaa.Rows.uptoBulkAll l
theorem ub_one {H : Type} (d : DataW H) : 1 ≤ ub d := by
  unfold ub
  cases d with
  | lit l => cases l <;> simp [Go.Proofs.Ytndfopmdkcnkgaa.Rows.uptoBulk]
  | _ => simp [Go.Proofs.Ytndfopmdkcnkgaa.Rows.uptoBulk]
theorem ubs_nil {H : Type} : ubs ([] : List (DataW H)) = 0 := by simp [ubs, Go.Proofs.Ytndfopmdkcnkgaa.Rows.uptoBulkAll]
theorem ubs_cons {H : Type} (d : DataW H) (l : List (DataW H)) : ubs (d :: l) = ub d + ubs l := by simp [ubs, ub, Go.Proofs.Ytndfopmdkcnkgaa.Rows.uptoBulkAll]
theorem ub_slice {H : Type} (l s : List (DataW H)) : ub (.slice l s) = ubs l + ubs s + 1 := by simp [ubs, ub, Go.Proofs.Ytndfopmdkcnkgaa.Rows.uptoBulk]
theorem ub_agg {H : Type} (l : List (DataW H)) : ub (.agg l) = ubs l + 1 := by simp [ubs, ub, Go.Proofs.Ytndfopmdkcnkgaa.Rows.uptoBulk]
theorem ub_bound {H : Type} {l : List (DataW H)} (h : Go.Proofs.Ytndfopmdkcnkgaa.Rows.uptoSmall H l = true) : ubs l ≤ 1048576 := by
  unfold Go.Proofs.Ytndfopmdkcnkgaa.Rows.uptoSmall at h; exact of_decide_eq_true h
/-- Whatever lies there as a value of type t, by the argument's own reading, r holds of, and of how much. -/
def Rdu {α : Type} (P : Program) (W : World) (t : TypeId) (r : List Value → α → Prop) (sz : α → Nat) : Prop :=
  ∀ (H : Type) (enc : TypeId × Value → H) (spare : Nat → Bool) (held : Bool) (fuel : Nat) (cs : List Value) (d : DataW H) (pl : List MemPlace),
    DataW.trod enc P W 0 spare held fuel t cs = some (d, pl) → ∃ x, r cs x ∧ sz x ≤ ub d
theorem Rdu.mono {α β : Type} {P : Program} {W : World} {t : TypeId} {r : List Value → α → Prop} {s : α → Nat} {q : List Value → β → Prop} {z : β → Nat} (h : Rdu P W t r s) (k : ∀ cs x, r cs x → ∃ y, q cs y ∧ z y ≤ s x) : Rdu P W t q z :=
  fun H enc sp hd fu cs d pl h1 => by
    obtain ⟨x, hx, hs⟩ := h H enc sp hd fu cs d pl h1
    obtain ⟨y, hy, hz⟩ := k cs x hx
    exact ⟨y, hy, by omega⟩
theorem rdu_int {P : Program} {W : World} {t : TypeId} {k : IntKind} (ht : P.underlying t = some (.int k)) : Rdu P W t (PInt k) (fun _ => 1) := fun H enc sp hd fu cs d pl h => by
  obtain ⟨n, e, _, hw⟩ := DataW.trod_int ht h
  exact ⟨n, ⟨e, hw⟩, ub_one d⟩
theorem rdu_bool {P : Program} {W : World} {t : TypeId} (ht : P.underlying t = some .bool) : Rdu P W t PBool (fun _ => 1) := fun H enc sp hd fu cs d pl h => by
  obtain ⟨b, e, _⟩ := DataW.trod_bool ht h
  exact ⟨b, e, ub_one d⟩
/-- A slice: its elements' cells, and what each is. -/
def PSu {α : Type} (A : SP) (k : Nat) (r : List Value → α → Prop) (cs : List Value) (xs : List α) : Prop :=
  ∃ (a : Option Addr) (cap : Nat) (Cs : List (List Value)), cs = [.slice a xs.length cap] ∧ xs.length ≤ cap ∧ Cs.length = xs.length ∧ (∀ i (h : i < xs.length) (h' : i < Cs.length), Cs[i].length = k ∧ r Cs[i] xs[i]) ∧ Rs A a Cs.flatten
def szL {α : Type} (sz : α → Nat) (xs : List α) : Nat := (xs.map sz).sum + 1
theorem sum_ubs {α H : Type} {sz : α → Nat} {f : Nat → α} {D : Nat → DataW H} : ∀ (n : Nat), (∀ i, i < n → sz (f i) ≤ ub (D i)) → (((List.range n).map f).map sz).sum ≤ ubs ((List.range n).map D)
  | 0, _ => by simp
  | n + 1, h => by
    have key : ∀ (l : List Nat), (∀ i ∈ l, sz (f i) ≤ ub (D i)) → ((l.map f).map sz).sum ≤ ubs (l.map D) := by
      intro l
      induction l with
      | nil => intro _; simp
      | cons x l ih =>
        intro h
        simp only [List.map_cons, List.sum_cons, ubs_cons]
        have := h x (by simp)
        have := ih fun i hi => h i (by simp [hi])
        omega
    exact key _ fun i hi => h i (by simpa using hi)
theorem rdu_slice {α : Type} {P : Program} {W : World} {t e : TypeId} {k : Nat} {r : List Value → α → Prop} {sz : α → Nat} (ht : P.underlying t = some (.slice e)) (hk : P.cellsOf e = k) (hk0 : 0 < k) (hr : Rdu P W e r sz) : Rdu P W t (PSu (old W) k r) (szL sz) := fun H enc sp hd fu cs d pl h => by
  rcases Deep.open_slice ht h with ⟨rfl, hx⟩ | ⟨a, len, cap, m, n, D, Pl, rfl, _, hl, _, hm, hx, hel⟩
  · exact ⟨[], ⟨none, 0, [], rfl, Nat.le_refl _, rfl, fun i h => by simp at h, rs_nil⟩, ub_one d⟩
  · have hlm : len ≤ m := by rw [hm]; split <;> omega
    simp only [Prod.mk.injEq] at hx
    obtain ⟨rfl, _⟩ := hx
    have hex : ∀ i, i < len → ∃ p : List Value × α, p.1.length = k ∧ r p.1 p.2 ∧ sz p.2 ≤ ub (D i) ∧ ∀ j v, p.1[j]? = some v → W.cell? (a.add (i * k + j)) = some v := fun i hi => by
      obtain ⟨cs', h1, h2⟩ := hel i (by omega)
      rw [hk] at h1
      obtain ⟨_, hlen, h3⟩ := World.cells?_some h1
      obtain ⟨x, hx, hs⟩ := hr H enc sp hd n cs' (D i) (Pl i) h2
      refine ⟨(cs', x), hlen, hx, hs, fun j v hv => ?_⟩
      have hj : j < k := by have h9 : j < cs'.length := lt_at hv; omega
      have := h3 j hj
      rw [Deep.add_add] at this
      rw [this, hv]
    rw [ub_slice]
    rcases Nat.eq_zero_or_pos len with h0 | h0
    · subst h0
      exact ⟨[], ⟨some a, cap, [], rfl, Nat.zero_le _, rfl, fun i h => by simp at h, rs_nil⟩, by simp [szL]⟩
    · obtain ⟨p0, _⟩ := hex 0 h0
      haveI : Inhabited (List Value × α) := ⟨p0⟩
      obtain ⟨f, hf⟩ := Deep.choose_lt hex
      refine ⟨(List.range len).map fun i => (f i).2, ⟨some a, cap, (List.range len).map fun i => (f i).1, by simp, by simpa using hl, by simp, fun i h h' => ?_, rs_old fun i v hv => ?_⟩, ?_⟩
      · simp only [List.length_map, List.length_range] at h
        simp only [List.getElem_map, List.getElem_range]
        exact ⟨(hf i h).1, (hf i h).2.1⟩
      · have hCk : ∀ c ∈ (List.range len).map fun i => (f i).1, c.length = k := fun c hc => by
          obtain ⟨i, hi, rfl⟩ := List.mem_map.1 hc
          exact (hf i (List.mem_range.1 hi)).1
        have hi := lt_at hv
        rw [flat_length hCk, List.length_map, List.length_range] at hi
        have hq : i / k < len := Nat.div_lt_of_lt_mul (by rw [Nat.mul_comm]; exact hi)
        have hm2 : i % k < k := Nat.mod_lt _ hk0
        have e : i = i / k * k + i % k := (Nat.div_add_mod' i k).symm
        rw [e, flat_at hCk hm2 (by simpa using hq)] at hv
        simp only [List.getElem_map, List.getElem_range] at hv
        rw [e]
        exact (hf (i / k) hq).2.2.2 _ v hv
      · have := sum_ubs (sz := sz) (f := fun i => (f i).2) (D := D) len fun i hi => (hf i hi).2.2.1
        unfold szL; omega
/-- The fields of a struct, one by one. -/
theorem rdu_fields {P : Program} {W : World} {t : TypeId} {fs : Array Field} (ht : P.underlying t = some (.struct fs)) {H : Type} {enc : TypeId × Value → H} {sp : Nat → Bool} {hd : Bool} {fu : Nat} {cs : List Value} {d : DataW H} {pl : List MemPlace}
    (h : DataW.trod enc P W 0 sp hd fu t cs = some (d, pl)) : cs.length = P.cellsOf t ∧ ∃ Ds : List (DataW H), Ds.length = fs.size ∧ ubs Ds + 1 = ub d ∧
    ∀ (j : Nat) (f : Field), fs[j]? = some f → ∀ {α : Type} {r : List Value → α → Prop} {sz : α → Nat}, Rdu P W f.type r sz → ∃ x D, Ds[j]? = some D ∧ r ((cs.drop f.offset).take (P.cellsOf f.type)) x ∧ sz x ≤ ub D := by
  obtain ⟨xs, n, _, hx, hl, hlen, hf⟩ := DataW.trod_struct ht h
  simp only [Prod.mk.injEq] at hx
  obtain ⟨rfl, _⟩ := hx
  refine ⟨hl, xs.map (·.1), by simpa using hlen, (ub_agg _).symm, fun j f hj α r sz hr => ?_⟩
  have hj' : j < xs.length := by
    have h1 : j < fs.size := (Array.getElem?_eq_some_iff.1 hj).1
    have h2 : xs.length = fs.size := by simpa using hlen
    omega
  have := hf j f hj
  rw [List.getElem?_eq_getElem hj'] at this
  obtain ⟨x, h1, h2⟩ := hr H enc sp hd n _ xs[j].1 xs[j].2 this
  exact ⟨x, xs[j].1, by simp [hj'], h1, h2⟩
/-- Bytes. -/
def PByU (A : SP) (cs : List Value) (xs : List Nat) : Prop := ∃ a cap, cs = [.slice a xs.length cap] ∧ xs.length ≤ cap ∧ Rs A a (bys xs) ∧ ∀ x ∈ xs, x < 256
def PInU (A : SP) (cs : List Value) (xs : List Int) : Prop := ∃ a cap, cs = [.slice a xs.length cap] ∧ xs.length ≤ cap ∧ Rs A a (ints xs) ∧ ∀ x ∈ xs, -9223372036854775808 ≤ x ∧ x ≤ 9223372036854775807
theorem sum_ones {α : Type} (xs : List α) : (xs.map fun _ => 1).sum = xs.length := by
  induction xs with
  | nil => rfl
  | cons x xs ih => simp only [List.map_cons, List.sum_cons, ih, List.length_cons]; omega
theorem rdu_bys {P : Program} {W : World} {t e : TypeId} (ht : P.underlying t = some (.slice e)) (he : P.underlying e = some (.int .u8)) (hk : P.cellsOf e = 1) : Rdu P W t (PByU (old W)) (fun xs => xs.length + 1) :=
  (rdu_slice ht hk (by decide) (rdu_int he)).mono fun cs zs ⟨a, cap, Cs, e1, hc, hl, hx, hr⟩ => by
    have hz : ∀ z ∈ zs, 0 ≤ z ∧ z ≤ 255 := fun z hz => by
      obtain ⟨i, hi, rfl⟩ := List.mem_iff_getElem.1 hz
      exact Go.bounds_u8 (hx i hi (by omega)).2.2
    have e2 : Cs.flatten = bys (zs.map Int.toNat) := by
      rw [flat1 (r := PInt .u8) (f := fun z : Int => .int .u8 z) hl (fun i h h' => (hx i h h').2.1), bys, List.map_map]
      refine List.map_congr_left fun z hzm => ?_
      have := hz z hzm
      simp only [Function.comp, b8]; congr 1; omega
    refine ⟨zs.map Int.toNat, ⟨a, cap, by simpa using e1, by simpa using hc, by rw [← e2]; exact hr, fun x hx => ?_⟩, by simp only [List.length_map, szL, sum_ones]; omega⟩
    obtain ⟨z, hzm, rfl⟩ := List.mem_map.1 hx
    have := hz z hzm; omega
theorem rdu_ints {P : Program} {W : World} {t e : TypeId} (ht : P.underlying t = some (.slice e)) (he : P.underlying e = some (.int .i64)) (hk : P.cellsOf e = 1) : Rdu P W t (PInU (old W)) (fun xs => xs.length + 1) :=
  (rdu_slice ht hk (by decide) (rdu_int he)).mono fun cs zs ⟨a, cap, Cs, e1, hc, hl, hx, hr⟩ => by
    refine ⟨zs, ⟨a, cap, e1, hc, ?_, fun z hz => ?_⟩, by simp only [szL, sum_ones]; omega⟩
    · rw [show ints zs = Cs.flatten from (flat1 (r := PInt .i64) (f := fun z : Int => .int .i64 z) hl (fun i h h' => (hx i h h').2.1)).symm]; exact hr
    · obtain ⟨i, hi, rfl⟩ := List.mem_iff_getElem.1 hz
      exact i64_wf (hx i hi (by omega)).2.2
theorem sum_le {α : Type} {f : α → Nat} {xs : List α} {x : α} (h : x ∈ xs) : f x ≤ (xs.map f).sum := by
  induction xs with
  | nil => cases h
  | cons y ys ih =>
    simp only [List.map_cons, List.sum_cons]
    rcases List.mem_cons.1 h with rfl | h
    · omega
    · have := ih h; omega
end Go.Vl

set_option linter.unusedVariables false
set_option linter.unusedSimpArgs false
namespace Go.Vl
open Go Go.Proofs
/-- An operation's cells. -/
structure Op9 where
  k : Int
  q : Int
  n : Int
  a : Option Addr
  c : Nat
  b : List Nat
  v : Nat
  ka : Option Addr
  kc : Nat
  kp : List Int
def Op9.cells (t : Op9) : List Value := [.int .i64 t.k, .int .i64 t.q, .int .i64 t.n, .slice t.a t.b.length t.c, .int .u64 (t.v : Nat), .slice t.ka t.kp.length t.kc]
structure Op9W (A : SP) (t : Op9) : Prop where
  cap : t.b.length ≤ t.c
  rs : Rs A t.a (bys t.b)
  byt : ∀ x ∈ t.b, x < 256
  v : t.v < 18446744073709551616
  kcap : t.kp.length ≤ t.kc
  krs : Rs A t.ka (ints t.kp)
  kb : ∀ x ∈ t.kp, -9223372036854775808 ≤ x ∧ x ≤ 9223372036854775807
  q : -9223372036854775808 ≤ t.q ∧ t.q ≤ 9223372036854775807
  n : -9223372036854775808 ≤ t.n ∧ t.n ≤ 9223372036854775807
def Op9.sz (t : Op9) : Nat := t.b.length + t.kp.length + 1
def ocs (l : List Op9) : List Value := l.flatMap Op9.cells
def POps (A : SP) (cs : List Value) (ops : List Op9) : Prop := ∃ a cap, cs = [.slice a ops.length cap] ∧ ops.length ≤ cap ∧ Rs A a (ocs ops) ∧ ∀ t ∈ ops, Op9W A t
/-! ### An operation on the device alone -/
def rawS (t : Op9) (s : DevS) : DevS := if t.k = 7 then (sto ((wi t.q 256 : Nat) : Int) (t.b.take (256 - wi t.q 256)) s).2 else if t.k = 8 then (fl1 ((wi t.q 256 : Nat) : Int) s).2 else if t.k = 9 then (fe s).2 else s
theorem room_le {a b : Nat} {s : DevS} (h : Room a s) (hab : b ≤ a) : Room b s := fun l hl => Nat.le_trans (Nat.add_le_add_left hab _) (h l hl)
def rawL (l : List Op9) (s : DevS) : DevS := l.foldl (fun s t => rawS t s) s
/-- The same, but what would be stored into the range is passed over. -/
def rawB (at_ m : Nat) (t : Op9) (s : DevS) : DevS := if t.k = 7 ∧ wi t.q 256 < at_ + m ∧ at_ < wi t.q 256 + t.b.length then s else rawS t s
def rawLB (at_ m : Nat) (l : List Op9) (s : DevS) : DevS := l.foldl (fun s t => rawB at_ m t s) s
end Go.Vl

set_option linter.unusedVariables false
set_option linter.unusedSimpArgs false
namespace Go.Vl
open Go Go.Proofs
theorem done_room {r : Nat} {s : DevS} (hw : WfD s) (h : Room r s) : Room r (doneS s) := by
  rcases done_loss (X := fun _ _ => True) hw (fun _ _ _ _ _ => trivial) with ⟨_, h2, _⟩ | ⟨_, h1, h2, h3, _, h5⟩
  · unfold Room; rw [h2]; exact h
  · intro l hl
    have hp := hw.pos
    have h0 := h _ (List.getElem_mem hp)
    have h4 := List.length_pos_iff.2 (hw.line _ (List.getElem_mem hp)).ne
    have := h3 l hl
    omega
theorem storeF_room : ∀ (m : Nat) {p r : Nat} {b : List Nat} {s : DevS}, b.length = m → WfD s → (∀ x ∈ b, x < 256) → Room (r + m) s → Room r (storeF b.length p b s).2 ∧ WfD (storeF b.length p b s).2 := by
  intro m
  induction m using Nat.strongRecOn with
  | _ m ih =>
    intro p r b s hm hw hb hroom
    by_cases h0 : b = []
    · subst h0
      rw [storeF_nil]
      exact ⟨room_le hroom (by omega), hw⟩
    · have hpos : 0 < b.length := List.length_pos_iff.2 h0
      have hr1 : Room 1 s := room_le hroom (by omega)
      have hwL := layS_wf (at_ := p - p % 8) hw hr1 (stW_nm (p := p) (s := s) hb)
      have hroom2 : Room (r + (m - min m (8 - p % 8))) (layS (p - p % 8) (nm (stW p b s)) s) := fun l hl => by
        have := onLine_room (r := r + m - 1) (f := layL ((p - p % 8) % 64 / 8) (nm (stW p b s))) (i := (p - p % 8) / 64) (fun l hl => by have := hroom l hl; omega) (fun l => by simp [layL]) l hl
        omega
      have hk : (b.drop (8 - p % 8)).length = m - min m (8 - p % 8) := by rw [List.length_drop]; omega
      rw [storeF_step h0]
      split
      · exact ⟨room_le (done_room hwL hroom2) (by omega), doneS_wf hwL⟩
      · exact ih (m - min m (8 - p % 8)) (by omega) hk (doneS_wf hwL) (fun x hx => hb x (List.mem_of_mem_drop hx)) (done_room hwL hroom2)
theorem fence_wf {s : DevS} (hw : WfD s) : WfD (fenceS s) := ⟨by simp [fenceS]; exact hw.pos, by simp [fenceS]; exact hw.top, fun l hl => by
  simp only [fenceS, List.mem_map] at hl
  obtain ⟨l0, h0, rfl⟩ := hl
  exact fenceL_wf (hw.line l0 h0), hw.arms, hw.after, hw.keeps⟩
theorem flF_room {r : Nat} : ∀ (k q : Nat) (s : DevS), WfD s → Room r s → Room r (flF k q s).2 ∧ WfD (flF k q s).2
  | 0, q, s, hw, h => by
    rw [flF_zero]
    unfold fe
    split
    · exact ⟨h, hw⟩
    · refine ⟨done_room (fence_wf hw) fun l hl => ?_, doneS_wf (fence_wf hw)⟩
      simp only [fenceS, List.mem_map] at hl
      obtain ⟨l0, h0, rfl⟩ := hl
      have h3 : (fenceL l0).st.length ≤ l0.st.length := by unfold fenceL; split <;> simp
      have := h l0 h0
      omega
  | k + 1, q, s, hw, h => by
    have hk : Room r (fl1 ((q * 64 : Nat) : Int) s).2 ∧ WfD (fl1 ((q * 64 : Nat) : Int) s).2 := by
      unfold fl1
      split
      · exact ⟨h, hw⟩
      · refine ⟨done_room (flushS_wf hw) fun l hl => ?_, doneS_wf (flushS_wf hw)⟩
        unfold flushS onLine at hl
        split at hl
        · rcases List.mem_or_eq_of_mem_set hl with h1 | h1
          · exact h l h1
          · rw [h1]
            rename_i l0 e
            exact h l0 (List.mem_of_getElem? e)
        · exact h l hl
    show Room r (if _ then _ else _ : Int × DevS).2 ∧ WfD (if _ then _ else _ : Int × DevS).2
    split
    · exact hk
    · exact flF_room k (q + 1) _ hk.2 hk.1
/-- Steps, one behind the other. -/
def fmtF : List (Nat × List Nat) → DevS → Int × DevS
  | [], s => (0, s)
  | t :: l, s => if (bytesP (t.1 : Int) t.2 s).1 ≠ 0 then bytesP (t.1 : Int) t.2 s else fmtF l (bytesP (t.1 : Int) t.2 s).2
def fst4 (n : Nat) : List (Nat × List Nat) := [(0, (List.replicate 64 0)), (64, (List.replicate 64 0)), (128, (List.replicate 64 0)), (0, sbB [n, 128, 32768, 32896, (n - 32896) / 256, 0])]
def stC (l : List (Nat × List Nat)) : List Value := l.flatMap fun t => .int .i64 (t.1 : Int) :: bys t.2
/-- What Format answers, and the device behind it. -/
def fmA (n : Nat) (s : DevS) : List Int × Int := if (fmtF (fst4 n) s).1 ≠ 0 then ([0, 0, 0, 0, 0], (fmtF (fst4 n) s).1) else ([(n : Int), ((128 : Nat) : Int), ((32768 : Nat) : Int), ((32896 : Nat) : Int), (((n - 32896) / 256 : Nat) : Int)], 0)
end Go.Vl

set_option linter.unusedVariables false
set_option linter.unusedSimpArgs false
namespace Go.Vl
open Go Go.Proofs
theorem goes_map (kp : List Int) (s : DevS) : (goesS kp s).ls.map seenL = s.ls.mapIdx (fun i l => l.st.getD (kOf kp i l.st.length) []) := by
  apply List.ext_getElem?
  intro j
  simp only [goesS, goPart, List.getElem?_map, List.getElem?_mapIdx]
  cases e : s.ls[j]? with
  | none => rfl
  | some l =>
    have hj : j < s.ls.length := (List.getElem?_eq_some_iff.1 e).1
    simp only [Option.map_some, Option.some.injEq]
    rw [if_pos hj]; simp [goL, seenL]
theorem seen_single {l : LineS} (h : l.st.length = 1) {k : Nat} (hk : k < 1) : l.st.getD k [] = seenL l := by
  obtain rfl : k = 0 := by omega
  unfold seenL; rw [h]
theorem goes_single {kp : List Int} {s : DevS} (h : ∀ l ∈ s.ls, l.st.length = 1) : imgS (goesS kp s) = imgS s := by
  refine img_seen ?_
  rw [goes_map]
  apply List.ext_getElem?
  intro j
  simp only [List.getElem?_map, List.getElem?_mapIdx]
  cases e : s.ls[j]? with
  | none => rfl
  | some l =>
    have hl := h l (List.mem_of_getElem? e)
    simp only [Option.map_some, Option.some.injEq]
    exact seen_single hl (by rw [hl]; exact kOf_lt (by decide))
end Go.Vl

set_option linter.unusedVariables false
set_option linter.unusedSimpArgs false
namespace Go.Vl
open Go Go.Proofs
def zz : List Nat := List.replicate 64 0
def LostI (n : Nat) (xs I : List Nat) : Prop := I.length = n ∧ I.drop 192 = xs.drop 192 ∧ (I.take 192 = xs.take 192 ∨ I.take 64 ≠ sbB [n, 128, 32768, 32896, (n - 32896) / 256, 0] ∨ (I.drop 64).take 128 = List.replicate 128 0)
def DoneI (n : Nat) (xs I : List Nat) : Prop := I.length = n ∧ I.drop 192 = xs.drop 192 ∧ I.take 64 = sbB [n, 128, 32768, 32896, (n - 32896) / 256, 0] ∧ (I.drop 64).take 128 = List.replicate 128 0
end Go.Vl

set_option linter.unusedVariables false
set_option linter.unusedSimpArgs false
namespace Go.Vl
open Go Go.Proofs
theorem goes_len (kp : List Int) (s : DevS) : (goesS kp s).ls.length = s.ls.length := by simp only [goesS, goPart_length]
end Go.Vl

set_option linter.unusedVariables false
set_option linter.unusedSimpArgs false
namespace Go.Vl
open Go Go.Proofs
def PSteps (A : SP) (cs : List Value) (ss : List StepC) : Prop := ∃ a cap, cs = [.slice a ss.length cap] ∧ ss.length ≤ cap ∧ ss.length ≤ 1353245080300 ∧ Rs A a (scs ss) ∧ ∀ t ∈ ss, t.v < 18446744073709551616
end Go.Vl

set_option linter.unusedVariables false
set_option linter.unusedSimpArgs false
namespace Go.Vl
open Go Go.Proofs
structure ImC where
  sz : Int
  fl : Int
  ha : Option Addr
  hcp : Nat
  hd : List Nat
  rt : Bool
  tn : Int
def ImC.cells (t : ImC) : List Value := [.int .i64 t.sz, .int .u8 t.fl, .slice t.ha t.hd.length t.hcp, .bool t.rt, .int .i64 t.tn]
def PImg (A : SP) (cs : List Value) (t : ImC) : Prop := cs = t.cells ∧ Rs A t.ha (bys t.hd) ∧ (∀ x ∈ t.hd, x < 256) ∧ t.hd.length ≤ t.hcp ∧ t.hd.length ≤ 140737488351232 ∧ (0 ≤ t.fl ∧ t.fl < 256) ∧ (-9223372036854775808 ≤ t.tn ∧ t.tn ≤ 9223372036854775807) ∧ (-9223372036854775808 ≤ t.sz ∧ t.sz ≤ 9223372036854775807)
end Go.Vl

set_option linter.unusedVariables false
set_option linter.unusedSimpArgs false
namespace Go.Vl
open Go Go.Proofs
/-- Rows that are read. -/
structure RwF (A : SP) (a : Option Addr) (vs : List Value) (ls : List (List Nat)) : Prop where
  len : vs.length = ls.length
  rd : Rs A a vs
  row : ∀ i (h : i < ls.length), ∃ b c, vs[i]? = some (.slice b ls[i].length c) ∧ Rs A b (bys ls[i])
theorem RwF.left {A X : SP} {a : Option Addr} {vs : List Value} {ls : List (List Nat)} (h : RwF A a vs ls) : RwF (A * X) a vs ls := ⟨h.len, h.rd.left, fun i hi => let ⟨b, c, e, hr⟩ := h.row i hi; ⟨b, c, e, hr.left⟩⟩
end Go.Vl

set_option linter.unusedVariables false
set_option linter.unusedSimpArgs false
namespace Go.Vl
open Go Go.Proofs
/-- What Format answers of any device, and the device behind it. -/
def fmX (s : DevS) : (List Int × Int) × DevS := if 578 ≤ s.ls.length then (((fmA (s.ls.length * 64) s).1, (fmtF (fst4 (s.ls.length * 64)) s).1), (fmtF (fst4 (s.ls.length * 64)) s).2) else (([0, 0, 0, 0, 0], 80), s)
end Go.Vl

set_option linter.unusedVariables false
set_option linter.unusedSimpArgs false
namespace Go.Vl
open Go Go.Proofs
theorem sto_room {r : Nat} {p e : Int} {b : List Nat} {s s2 : DevS} (h : sto p b s = (e, s2)) (hw : WfD s) (hb : ∀ x ∈ b, x < 256) (hr : Room (r + b.length) s) : Room r s2 := by
  have h0 : Room r s := room_le hr (by omega)
  have h2 : (sto p b s).2 = s2 := by rw [h]
  rw [← h2]
  unfold sto
  split
  · exact h0
  · exact (storeF_room b.length rfl hw hb hr).1
theorem flushS_room {r p : Nat} {s : DevS} (h : Room r s) : Room r (flushS p s) := fun l hl => by
  unfold flushS onLine at hl
  split at hl
  · rcases List.mem_or_eq_of_mem_set hl with h1 | h1
    · exact h l h1
    · rw [h1]
      rename_i l0 e
      exact h l0 (List.mem_of_getElem? e)
  · exact h l hl
theorem fl1_room {r : Nat} {p e : Int} {s s2 : DevS} (h : fl1 p s = (e, s2)) (hw : WfD s) (hr : Room r s) : Room r s2 := by
  unfold fl1 at h
  split at h
  · rw [← (Prod.mk.inj h).2]; exact hr
  · rw [← (Prod.mk.inj h).2]; exact done_room (flushS_wf hw) (flushS_room hr)
theorem fe_room {r : Nat} {e : Int} {s s2 : DevS} (h : fe s = (e, s2)) (hw : WfD s) (hr : Room r s) : Room r s2 := by
  unfold fe at h
  split at h
  · rw [← (Prod.mk.inj h).2]; exact hr
  · rw [← (Prod.mk.inj h).2]
    refine done_room (fence_wf hw) fun l hl => ?_
    simp only [fenceS, List.mem_map] at hl
    obtain ⟨l0, h0, rfl⟩ := hl
    have h3 : (fenceL l0).st.length ≤ l0.st.length := by unfold fenceL; split <;> simp
    have := hr l0 h0
    omega
/-- The contents of a line, by any number. -/
def ctI (p : Int) (s : DevS) : List (List Nat) := if p < 0 then [] else ctS p.toNat s
/-- What Load tells. -/
def ldB (p m : Int) (s : DevS) : List Nat := if rdy s.ls.length s.off p m = 0 then ((imgS s).drop p.toNat).take m.toNat else []
end Go.Vl

set_option linter.unusedVariables false
set_option linter.unusedSimpArgs false
namespace Go.Vl
open Go Go.Proofs
theorem Op9W.left {A X : SP} {t : Op9} (h : Op9W A t) : Op9W (A * X) t := ⟨h.cap, h.rs.left, h.byt, h.v, h.kcap, h.krs.left, h.kb, h.q, h.n⟩
/-- What PersistLasts is handed. -/
structure RgC where
  ba : Option Addr
  bc : Nat
  bef : List Op9
  q : Int
  a : Option Addr
  c : Nat
  b : List Nat
  ha : Option Addr
  hc : Nat
  beh : List Op9
  ka : Option Addr
  kc : Nat
  kp : List Int
def RgC.cells (t : RgC) : List Value := [.slice t.ba t.bef.length t.bc, .int .i64 t.q, .slice t.a t.b.length t.c, .slice t.ha t.beh.length t.hc, .slice t.ka t.kp.length t.kc]
structure RgW (A : SP) (t : RgC) : Prop where
  hrb : Rs A t.ba (ocs t.bef)
  hwb : ∀ x ∈ t.bef, Op9W A x
  hrh : Rs A t.ha (ocs t.beh)
  hwh : ∀ x ∈ t.beh, Op9W A x
  hr : Rs A t.a (bys t.b)
  hb : ∀ x ∈ t.b, x < 256
  hcap : t.b.length ≤ t.c
  hrk : Rs A t.ka (ints t.kp)
end Go.Vl

set_option linter.unusedVariables false
set_option linter.unusedSimpArgs false
namespace Go.Vl
open Go Go.Proofs
def xm (i : Nat) : Int := IntKind.u8.wrap (IntKind.i64.wrap ((BitVec.ofInt IntKind.i64.bits 165 ^^^ BitVec.ofInt IntKind.i64.bits (i : Int)).toNat))
/-- The marks behind a list of bytes. -/
def xmN (i : Nat) : Nat := (xm i).toNat
def spm (n : Nat) : List Nat := (List.range 80).map fun j => xmN (n + j)
def spi (n : Nat) : List Int := (List.range 9).map fun j => (7700 + ((n + j : Nat) : Int))
attribute [local irreducible] Sl pt ro
end Go.Vl

set_option linter.unusedVariables false
set_option linter.unusedSimpArgs false
namespace Go.Vl
open Go Go.Proofs
theorem rangeP_room {r : Nat} {p m e : Int} {s s2 : DevS} (h : rangeP p m s = (e, s2)) (hw : WfD s) (hr : Room r s) : Room r s2 := by
  have h2 : (rangeP p m s).2 = s2 := by rw [h]
  rw [← h2]
  unfold rangeP
  split
  · exact hr
  · split
    · exact hr
    · split
      · exact hr
      · exact (flF_room _ _ _ hw hr).1
/-- How wide. -/
def wd (n : Int) : Nat := 2 ^ wi n 4
end Go.Vl

set_option linter.unusedVariables false
set_option linter.unusedSimpArgs false
namespace Go.Vl
open Go Go.Proofs
theorem done_on {s : DevS} (h : doneE s = 0) : (doneS s).off = s.off := by
  unfold doneE at h
  unfold doneS
  cases e : s.arms with
  | nil => rfl
  | cons a ar =>
    rw [e] at h
    simp only at h ⊢
    split
    · rfl
    · rename_i c; rw [if_neg c] at h; exact absurd h (by decide)
theorem storeF_on : ∀ (m : Nat) {p : Nat} {b : List Nat} {s s2 : DevS}, b.length = m → storeF b.length p b s = (0, s2) → s2.off = s.off := by
  intro m
  induction m using Nat.strongRecOn with
  | _ m ih =>
    intro p b s s2 hm h
    by_cases h0 : b = []
    · subst h0; rw [storeF_nil] at h; simp only [Prod.mk.injEq, true_and] at h; rw [h]
    · have hpos : 0 < b.length := List.length_pos_iff.2 h0
      rw [storeF_step h0] at h
      by_cases hd : doneE (layS (p - p % 8) (nm (stW p b s)) s) = 0
      · rw [if_neg (by rw [hd]; decide)] at h
        have := ih (b.drop (8 - p % 8)).length (by rw [List.length_drop]; omega) rfl h
        rw [this, done_on hd, layS_off]
      · rw [if_pos hd] at h
        simp only [Prod.mk.injEq] at h
        exact absurd h.1 hd
theorem sto_on {p : Int} {b : List Nat} {s s2 : DevS} (h : sto p b s = (0, s2)) : s2.off = s.off := by
  unfold sto at h
  split at h
  · rename_i hr; simp only [Prod.mk.injEq] at h; exact absurd h.1 hr
  · exact storeF_on _ rfl h
def needN (l : List (Int × Int)) : Nat := (l.map fun x => 24 + up8 x.2.toNat).sum
theorem needN_cons (x : Int × Int) (l : List (Int × Int)) : needN (x :: l) = 24 + up8 x.2.toNat + needN l := by unfold needN; rw [List.map_cons, List.sum_cons]
theorem needF_ok : ∀ {l : List (Int × Int)} {s e r : Int}, (∀ x ∈ l, 1 ≤ x.2) → needF (lensX l) s = (r, e) → e = 0 → r = s + (needN l : Nat)
  | [], s, e, r, _, h, _ => by
    simp only [lensX, List.map_nil, needF, Prod.mk.injEq] at h
    rw [← h.1]; show s = s + ((0 : Nat) : Int); omega
  | x :: l, s, e, r, hx, h, he => by
    have h1 := hx x (by simp)
    obtain ⟨n, hn⟩ := Int.eq_ofNat_of_zero_le (show 0 ≤ x.2 by omega)
    have hc : lensX (x :: l) = (n : Int) :: lensX l := by unfold lensX; rw [List.map_cons, hn]
    rw [hc, needF_cons (by omega)] at h
    split at h
    · simp only [Prod.mk.injEq] at h; omega
    · rename_i hno
      have h2 := needF_ok (fun x hx' => hx x (List.mem_cons_of_mem _ hx')) h he
      rw [h2, needN_cons, hn, Int.toNat_natCast]
      have : (rndS n).1 = ((up8 n : Nat) : Int) := by unfold rndS at hno ⊢; split at hno <;> rename_i hh; exact absurd (.inl (by decide)) hno; rw [if_neg hh]
      omega
attribute [local irreducible] crk crL crc Sl pt ro Dev imgS recS
theorem Open_ok {A R : SP} {C : SP → SP} {d : Nat} {s : DevS} (hc : Ct A (Dev d s) R C := by repeat (first | with_reducible exact ct_here | apply ct_left)) {p q : Int} (hp : -9223372036854775808 ≤ p ∧ p ≤ 9223372036854775807 := by omega) (hq : -9223372036854775808 ≤ q ∧ q ≤ 9223372036854775807 := by omega) (hok : (64 ≤ p ∧ p % 64 = 0 ∧ 128 ≤ q ∧ q % 64 = 0 ∧ p ≤ (s.ls.length : Int) * 64 ∧ q ≤ (s.ls.length : Int) * 64 - p) := by omega) :
    Fn Try.prog 16 #[.pointer (some ⟨d, 0, none⟩), .int .i64 p, .int .i64 q] (A) (fun r B => ∃ b, r = .tuple #[.pointer (some ⟨b, 0, none⟩), .int .i64 0] ∧ B = A * pt b (cl [.pointer (some ⟨d, 0, none⟩), .int .i64 p, .int .i64 q] 52)) := by
  refine fn_enterW (args := [.pointer (some ⟨d, 0, none⟩), .int .i64 p, .int .i64 q]) Try.func16 rfl Try.ntmps16 (by simp) ?_; refine tc_have (fun _ _ h => ct_wf2 hc h) fun hw => ?_
  have htop := hw.top
  have hpos := hw.pos
  obtain ⟨rfl, hC⟩ := hc
  refine sr ?_; refine tla ?_; refine tla ?_; refine nq ?_; refine sr ?_; refine tlm ?_; refine tl_c rfl (o_call bd45 rfl (Size_c (s := s))) ?_; rintro _ _ ⟨rfl, rfl⟩; refine tla ?_; refine nq ?_; refine tc_seq ?_; refine tc_block ?_; refine sr ?_; refine tlm ?_; refine tv (o_eqi rfl rfl) ?_; refine tla ?_; refine nq ?_; refine tc_cond rfl (fun h => ?_) (fun h => ?_)
  · exfalso; first | omega | (simp at h; omega)
  · try simp only [lv1, lv2, lv3, lv4, lv5, lv6, Bool.not_true, Bool.not_false] at h
    refine tc_seq ?_; refine tc_cut (fun ρ BB => ∃ (bb : Bool), (bb = decide (¬ (64 ≤ p ∧ p % 64 = 0 ∧ 128 ≤ q ∧ q % 64 = 0 ∧ p ≤ (s.ls.length : Int) * 64 ∧ q ≤ (s.ls.length : Int) * 64 - p))) ∧ ρ 14 = .bool bb ∧ ρ 0 = .pointer (some ⟨d, 0, none⟩) ∧ ρ 1 = .int .i64 p ∧ ρ 2 = .int .i64 q ∧ BB = R * Dev d s) ?_ ?_
    · skip
      refine tc_reg ?_; refine tlm ?_; refine tv (o_lss rfl rfl) ?_; refine tlm ?_; refine tl_bool (d := 17) rfl (fun h => ?_) (fun h => ?_)
      · have g17 : (p < 64) := by first | exact of_decide_eq_true h | (have h2 := h; simp at h2; omega) | simpa using h
        refine tk ?_; refine tk ?_; refine tk ?_; refine tv (o_pick_t rfl (by conv => lhs; whnf)) ?_; refine tlm ?_; refine tk ?_; refine tk ?_; refine tv (o_pick_t rfl (by conv => lhs; whnf)) ?_; refine tlm ?_; refine tk ?_; refine tk ?_; refine tk ?_; refine tv (o_pick_t rfl (by conv => lhs; whnf)) ?_; refine tlm ?_; refine tk ?_; refine tk ?_; refine tk ?_; refine tv (o_pick_t rfl (by conv => lhs; whnf)) ?_; refine tlm ?_; refine tk ?_; refine tk ?_; refine tk ?_; refine tk ?_; refine tk ?_; refine tv (o_pick_t rfl (by conv => lhs; whnf)) ?_; refine tla ?_; refine tl_nil ?_; exact ⟨_, by first | exact (decide_eq_true (by omega)).symm | exact (decide_eq_false (by omega)).symm | (rw [decide_eq_decide]; omega), rfl, rfl, rfl, rfl, rfl⟩
      · have g17 : ¬ (p < 64) := by first | exact of_decide_eq_false h | (have h2 := h; simp at h2; omega) | simpa using h
        refine tlm ?_; refine tv (by first | exact o_remI rfl rfl (by omega) | exact o_rem rfl rfl (by omega)) ?_; refine tv (o_nei rfl rfl) ?_; refine tv (o_pick_f rfl (by conv => lhs; whnf)) ?_; refine tlm ?_; refine tl_bool (d := 22) rfl (fun h => ?_) (fun h => ?_)
        · have g22 : (p < 64 ∨ p % 64 ≠ 0) := by first | exact of_decide_eq_true h | (have h2 := h; simp at h2; omega) | simpa using h
          refine tk ?_; refine tk ?_; refine tv (o_pick_t rfl (by conv => lhs; whnf)) ?_; refine tlm ?_; refine tk ?_; refine tk ?_; refine tk ?_; refine tv (o_pick_t rfl (by conv => lhs; whnf)) ?_; refine tlm ?_; refine tk ?_; refine tk ?_; refine tk ?_; refine tv (o_pick_t rfl (by conv => lhs; whnf)) ?_; refine tlm ?_; refine tk ?_; refine tk ?_; refine tk ?_; refine tk ?_; refine tk ?_; refine tv (o_pick_t rfl (by conv => lhs; whnf)) ?_; refine tla ?_; refine tl_nil ?_; exact ⟨_, by first | exact (decide_eq_true (by omega)).symm | exact (decide_eq_false (by omega)).symm | (rw [decide_eq_decide]; omega), rfl, rfl, rfl, rfl, rfl⟩
        · have g22 : ¬ (p < 64 ∨ p % 64 ≠ 0) := by first | exact of_decide_eq_false h | (have h2 := h; simp at h2; omega) | simpa using h
          refine tlm ?_; refine tv (o_lss rfl rfl) ?_; refine tv (o_pick_f rfl (by conv => lhs; whnf)) ?_; refine tlm ?_; refine tl_bool (d := 26) rfl (fun h => ?_) (fun h => ?_)
          · have g26 : (p < 64 ∨ p % 64 ≠ 0 ∨ q < 128) := by first | exact of_decide_eq_true h | (have h2 := h; simp at h2; omega) | simpa using h
            refine tk ?_; refine tk ?_; refine tk ?_; refine tv (o_pick_t rfl (by conv => lhs; whnf)) ?_; refine tlm ?_; refine tk ?_; refine tk ?_; refine tk ?_; refine tv (o_pick_t rfl (by conv => lhs; whnf)) ?_; refine tlm ?_; refine tk ?_; refine tk ?_; refine tk ?_; refine tk ?_; refine tk ?_; refine tv (o_pick_t rfl (by conv => lhs; whnf)) ?_; refine tla ?_; refine tl_nil ?_; exact ⟨_, by first | exact (decide_eq_true (by omega)).symm | exact (decide_eq_false (by omega)).symm | (rw [decide_eq_decide]; omega), rfl, rfl, rfl, rfl, rfl⟩
          · have g26 : ¬ (p < 64 ∨ p % 64 ≠ 0 ∨ q < 128) := by first | exact of_decide_eq_false h | (have h2 := h; simp at h2; omega) | simpa using h
            refine tlm ?_; refine tv (by first | exact o_remI rfl rfl (by omega) | exact o_rem rfl rfl (by omega)) ?_; refine tv (o_nei rfl rfl) ?_; refine tv (o_pick_f rfl (by conv => lhs; whnf)) ?_; refine tlm ?_; refine tl_bool (d := 31) rfl (fun h => ?_) (fun h => ?_)
            · have g31 : (p < 64 ∨ p % 64 ≠ 0 ∨ q < 128 ∨ q % 64 ≠ 0) := by first | exact of_decide_eq_true h | (have h2 := h; simp at h2; omega) | simpa using h
              refine tk ?_; refine tk ?_; refine tk ?_; refine tv (o_pick_t rfl (by conv => lhs; whnf)) ?_; refine tlm ?_; refine tk ?_; refine tk ?_; refine tk ?_; refine tk ?_; refine tk ?_; refine tv (o_pick_t rfl (by conv => lhs; whnf)) ?_; refine tla ?_; refine tl_nil ?_; exact ⟨_, by first | exact (decide_eq_true (by omega)).symm | exact (decide_eq_false (by omega)).symm | (rw [decide_eq_decide]; omega), rfl, rfl, rfl, rfl, rfl⟩
            · have g31 : ¬ (p < 64 ∨ p % 64 ≠ 0 ∨ q < 128 ∨ q % 64 ≠ 0) := by first | exact of_decide_eq_false h | (have h2 := h; simp at h2; omega) | simpa using h
              refine tlm ?_; refine tlm ?_; refine tv (o_gtr rfl rfl) ?_; refine tv (o_pick_f rfl (by conv => lhs; whnf)) ?_; refine tlm ?_; refine tl_bool (d := 36) rfl (fun h => ?_) (fun h => ?_)
              · have g36 : (p < 64 ∨ p % 64 ≠ 0 ∨ q < 128 ∨ q % 64 ≠ 0 ∨ (s.ls.length : Int) * 64 < p) := by first | exact of_decide_eq_true h | (have h2 := h; simp at h2; omega) | simpa using h
                refine tk ?_; refine tk ?_; refine tk ?_; refine tk ?_; refine tk ?_; refine tv (o_pick_t rfl (by conv => lhs; whnf)) ?_; refine tla ?_; refine tl_nil ?_; exact ⟨_, by first | exact (decide_eq_true (by omega)).symm | exact (decide_eq_false (by omega)).symm | (rw [decide_eq_decide]; omega), rfl, rfl, rfl, rfl, rfl⟩
              · have g36 : ¬ (p < 64 ∨ p % 64 ≠ 0 ∨ q < 128 ∨ q % 64 ≠ 0 ∨ (s.ls.length : Int) * 64 < p) := by first | exact of_decide_eq_false h | (have h2 := h; simp at h2; omega) | simpa using h
                refine tlm ?_; refine tlm ?_; refine tlm ?_; refine tv (o_subI rfl rfl (by omega)) ?_; refine tv (o_gtr rfl rfl) ?_; refine tv (o_pick_f rfl (by conv => lhs; whnf)) ?_; refine tla ?_; refine tl_nil ?_; exact ⟨_, by first | exact (decide_eq_true (by omega)).symm | exact (decide_eq_false (by omega)).symm | (rw [decide_eq_decide]; omega), rfl, rfl, rfl, rfl, rfl⟩
    · intro ρ B hI
      obtain ⟨bb, hbb0, hE14, hE0, hE1, hE2, rfl⟩ := hI
      refine q_then_n ?_; refine tc_env (d := 14) hE14 ?_; refine tc_env (d := 0) hE0 ?_; refine tc_env (d := 1) hE1 ?_; refine tc_env (d := 2) hE2 ?_
      clear hE14 hE0 hE1 hE2
      refine tc_cond rfl (fun h => ?_) (fun h => ?_)
      · exfalso; rw [h] at hbb0; have := of_decide_eq_true hbb0.symm; omega
      · try simp only [lv1, lv2, lv3, lv4, lv5, lv6, Bool.not_true, Bool.not_false] at h
        refine tc_skip ?_; refine q_block_n (q_then_n ?_); refine sr ?_; refine tlm ?_; refine tlm ?_; refine tlm ?_; refine tv (o_bS (l := [_, _, _]) (pv_cons (by conv => lhs; whnf) (pv_cons (by conv => lhs; whnf) (pv_cons (by conv => lhs; whnf) pv_nil))) Try.underlying52 z52 (pl52 Try.underlying52) rfl) ?_; refine tl_x rfl (o_box rfl rfl) ?_; rintro _ _ ⟨b47, rfl, rfl⟩; refine tla ?_; refine tla ?_; refine nq ?_; refine tc_ret ?_; exact ⟨_, _, res2 rfl rfl rfl, fun _ _ h => h, b47, rfl, rfl⟩
theorem ready11_c {A R : SP} {C : SP → SP} {d : Nat} {s : DevS} (hc : Ct A (Dev d s) R C := by repeat (first | with_reducible exact ct_here | apply ct_left)) {bl at_ sz : Nat} (hl : Has R bl (cl (lcs11 d at_ sz) 52) := by (repeat (first | assumption | with_reducible exact has_here | with_reducible exact has_pt | apply has_left))) :
    Fn Try.prog 52 #[.pointer (some ⟨bl, 0, none⟩)] (A) (fun r B => r = .int .i64 (stE s) ∧ A = B) := by
  refine fn_enterW (args := [.pointer (some ⟨bl, 0, none⟩)]) Try.func52 rfl Try.ntmps52 (by simp) ?_
  obtain ⟨rfl, hC⟩ := hc
  refine sr ?_; refine tla ?_; refine nq ?_; refine tc_seq ?_; refine tc_block ?_; refine sr ?_; refine tlm ?_; refine tv (o_eqp Try.underlying37 rfl rfl) ?_; refine tlm ?_; refine tl_bool (d := 6) rfl (fun h => ?_) (fun h => ?_)
  · exfalso; simp at h
  · try simp only [lv1, lv2, lv3, lv4, lv5, lv6, Bool.not_true, Bool.not_false] at h
    refine tlm ?_; refine tv (o_nilCheck rfl) ?_; refine tv (o_fieldAddr (o := 0) Try.underlying52 rfl rfl sz31 rfl) ?_; refine tv (o_load p31 rfl (by repeat (first | assumption | apply has_left)) rfl) ?_; refine tv (o_eqp Try.underlying31 rfl rfl) ?_; refine tv (o_pick_f rfl (by conv => lhs; whnf)) ?_; refine tla ?_; refine nq ?_; refine tc_cond rfl (fun h => ?_) (fun h => ?_)
    · exfalso; simp at h
    · try simp only [lv1, lv2, lv3, lv4, lv5, lv6, Bool.not_true, Bool.not_false] at h
      refine sr ?_; refine tlm ?_; refine tv (o_nilCheck rfl) ?_; refine tv (o_fieldAddr (o := 0) Try.underlying52 rfl rfl sz31 rfl) ?_; refine tv (o_load p31 rfl (by repeat (first | assumption | apply has_left)) rfl) ?_; refine tl_c rfl (o_call bd32 rfl (Off_c (s := s))) ?_; rintro _ _ ⟨rfl, rfl⟩; refine tla ?_; refine nq ?_; refine tc_cond rfl (fun h => ?_) (fun h => ?_)
      · have ho : s.off = true := by first | exact h | simpa using h
        refine sr ?_; refine tla ?_; refine nq ?_; refine tc_ret ?_; refine q_block_r (q_then_r ?_); exact ⟨.int .i64 5, _, res1 rfl rfl, fun _ _ h => h, by unfold stE; rw [if_pos ho], rfl⟩
      · have ho : s.off = false := by first | exact h | simpa using h
        refine tc_skip ?_; refine q_block_n (q_then_n ?_); refine sr ?_; refine tla ?_; refine nq ?_; refine tc_ret ?_; exact ⟨.int .i64 0, _, res1 rfl rfl, fun _ _ h => h, by unfold stE; rw [if_neg (by rw [ho]; decide)], rfl⟩
end Go.Vl

set_option linter.unusedVariables false
set_option linter.unusedSimpArgs false
namespace Go.Vl
open Go Go.Proofs
def xcl (l : List (Int × Int)) : List Value := l.flatMap xcs
theorem xcl_len (l : List (Int × Int)) : (xcl l).length = l.length * 2 := fm_length (f := xcs) fun _ _ => rfl
theorem xcl_at {l : List (Int × Int)} {j : Nat} (h : j < l.length) : ((xcl l).drop (j * 2)).take 2 = xcs l[j] := fm_at (f := xcs) (fun _ _ => rfl) h
theorem lensX_succ {l : List (Int × Int)} {i : Nat} (h : i < l.length) : lensX (l.take (i + 1)) = lensX (l.take i) ++ [l[i].2] := by
  rw [List.take_succ_eq_append_getElem h]; unfold lensX; rw [List.map_append]; rfl
theorem lensX_len (l : List (Int × Int)) : (lensX l).length = l.length := by unfold lensX; rw [List.length_map]
theorem may_nat {n at_ sz : Nat} {x : Int × Int} (h : mayX n at_ sz x = true) : ∃ p m : Nat, x = ((p : Int), (m : Int)) ∧ 64 ≤ p ∧ 1 ≤ m ∧ p + m ≤ n ∧ (p + m ≤ at_ ∨ at_ + sz ≤ p) := by
  have h1 := of_decide_eq_true h
  obtain ⟨p, hp⟩ := Int.eq_ofNat_of_zero_le (show 0 ≤ x.1 by omega)
  obtain ⟨m, hm⟩ := Int.eq_ofNat_of_zero_le (show 0 ≤ x.2 by omega)
  exact ⟨p, m, by cases x; simp only at hp hm; rw [hp, hm], by omega, by omega, by omega, by omega⟩
theorem word_in {p : Nat} {s : DevS} (ho : s.off = false) (hp : p % 8 = 0) (hi : p + 8 ≤ s.ls.length * 64) : wordP (p : Nat) s = (nm (((imgS s).drop p).take 8), 0) := by
  unfold wordP loadP
  rw [if_neg (by rw [ho]; decide), if_neg (by omega), ho, if_neg (by rw [rdy_ok (by omega) (by omega) (by omega)]; decide), Int.toNat_natCast]
theorem nm8_lt {l : List Nat} (h : ∀ x ∈ l, x < 256) : nm (l.take 8) < 18446744073709551616 := by
  have h1 := nm_lt (l.take 8) fun x hx => h x (List.mem_of_mem_take hx)
  exact Nat.lt_of_lt_of_le h1 (by calc 256 ^ (l.take 8).length ≤ 256 ^ 8 := Nat.pow_le_pow_right (by decide) (List.length_take_le _ _)
    _ = 18446744073709551616 := by decide)
theorem putF_e {q p m : Nat} {l : List (Int × Int)} {s s2 : DevS} {e : Int} (h : sto (q : Nat) (recS p (((imgS s).drop p).take m)) s = (e, s2)) (he : e ≠ 0) : putF q (((p : Int), (m : Int)) :: l) s = (e, s2) := by
  show (if (sto (q : Nat) (recS p (((imgS s).drop p).take m)) s).1 ≠ 0 then sto (q : Nat) (recS p (((imgS s).drop p).take m)) s else _) = _
  rw [h, if_pos he]
theorem putF_o {q p m : Nat} {l : List (Int × Int)} {s s2 : DevS} (h : sto (q : Nat) (recS p (((imgS s).drop p).take m)) s = (0, s2)) : putF q (((p : Int), (m : Int)) :: l) s = putF (q + (24 + up8 m)) l s2 := by
  show (if (sto (q : Nat) (recS p (((imgS s).drop p).take m)) s).1 ≠ 0 then _ else putF (q + (24 + up8 m)) l (sto (q : Nat) (recS p (((imgS s).drop p).take m)) s).2) = _
  rw [h, if_neg (by simp)]
theorem needN_ge : ∀ (l : List (Int × Int)), l.length ≤ needN l
  | [] => Nat.zero_le _
  | x :: l => by have := needN_ge l; rw [needN_cons, List.length_cons]; omega
theorem all_drop {α : Type} {p : α → Bool} {l : List α} (h : l.all p = true) {i : Nat} (hi : i < l.length) : p l[i] = true := List.all_eq_true.1 h _ (List.getElem_mem hi)
theorem all_take {α : Type} {p : α → Bool} {l : List α} {i : Nat} (hi : i < l.length) (h : (l.take i).all p = true) (hp : p l[i] = true) : (l.take (i + 1)).all p = true := by
  rw [List.take_succ_eq_append_getElem hi, List.all_append, h]; simp [hp]
theorem all_not {α : Type} {p : α → Bool} {l : List α} {i : Nat} (hi : i < l.length) (hp : p l[i] = false) : l.all p = false := by
  rw [List.all_eq_false]; exact ⟨_, List.getElem_mem hi, by rw [hp]; decide⟩
attribute [local irreducible] crk crL crc Sl pt ro Dev imgS recS
set_option maxRecDepth 20000 in
set_option maxHeartbeats 2000000 in
theorem Write_c {A R : SP} {C : SP → SP} {d : Nat} {s : DevS} (hc : Ct A (Dev d s) R C := by repeat (first | with_reducible exact ct_here | apply ct_left)) {bl at_ sz : Nat} (hl : Has R bl (cl (lcs11 d at_ sz) 52) := by (repeat (first | assumption | with_reducible exact has_here | with_reducible exact has_pt | apply has_left))) (hlw : LogW (s.ls.length * 64) at_ sz := by assumption) {a : Option Addr} {c m : Nat} {xs : List (Int × Int)} (hr : Rs R a (xcl xs) := by repeat (first | assumption | with_reducible exact rs_sl | with_reducible exact rs_pt0 | exact rs_none | apply Rs.left)) (hm : xs.length = m := by first | assumption | rfl) (hX : ∀ x ∈ xs, XW x := by assumption) (hml : m ≤ 17592186044416 := by omega) (hroom : Room (sz + 1) s := by assumption) :
    Fn Try.prog 24 #[.pointer (some ⟨bl, 0, none⟩), .slice a m c] (A) (fun r B => ∃ e s2, writeS at_ sz xs s = (e, s2) ∧ r = .int .i64 e ∧ B = C (Dev d s2)) := by
  refine fn_enterW (args := [.pointer (some ⟨bl, 0, none⟩), .slice a m c]) Try.func24 rfl Try.ntmps24 (by simp) ?_; refine tc_have (fun _ _ h => ct_wf2 hc h) fun hw => ?_
  have htop := hw.top
  have hpos := hw.pos
  obtain ⟨rfl, hC⟩ := hc
  have hAC : ∀ g w, sat g w (R * Dev d s) → sat g w (C (Dev d s)) := fun g w h => by rw [hC]; exact h
  have hlw9 := hlw
  obtain ⟨w1, w2, w3, w4, w5⟩ := hlw9
  refine sr ?_; refine tla ?_; refine nq ?_; refine tc_seq ?_; refine sr ?_; refine tlm ?_; refine tl_c rfl (o_call bd52 rfl (ready11_c (s := s) (hl := hl))) ?_; rintro _ _ ⟨rfl, rfl⟩; refine tla ?_; refine nq ?_; refine sr ?_; refine tlm ?_; refine tv (o_nei rfl rfl) ?_; refine nq ?_; refine tc_cond rfl (fun h => ?_) (fun h => ?_)
  · try simp only [lv1, lv2, lv3, lv4, lv5, lv6, Bool.not_true, Bool.not_false] at h
    refine sr ?_; refine tlm ?_; refine tla ?_; refine nq ?_; refine tc_ret ?_; refine q_then_r ?_
    have ho := stE_off h
    exact ⟨.int .i64 (stE s), C (Dev d s), res1 rfl rfl, fun _ _ h => by rw [hC]; exact (Dr.sat (A' := R * Dev d s) (by repeat (first | with_reducible exact dr_refl | apply dr_keep | apply dr_drop))) _ _ h, stE s, s, by unfold writeS stE; rw [if_pos ho, if_pos ho], rfl, rfl⟩
  · have ho : s.off = false := stE_on (by simpa using h)
    have hw2 := word_in (p := at_) ho (by omega) (by omega)
    obtain ⟨v, hv⟩ : ∃ v, (wordP (at_ : Nat) s).1 = v := ⟨_, rfl⟩
    have hvl : v < 18446744073709551616 := by rw [← hv, hw2]; exact nm8_lt fun x hx => img_lt x (List.mem_of_mem_drop hx)
    refine tc_skip ?_; refine q_then_n ?_; refine tc_seq ?_; refine tc_seq ?_; refine tc_regq mo (by kernel_rfl) ?_; refine ql_v rfl (o_move (by conv => lhs; whnf)) ?_; refine ql_v rfl (o_nilCheck rfl) ?_; refine ql_v rfl (o_fieldAddr (o := 0) Try.underlying52 rfl rfl sz31 rfl) ?_; refine ql_v rfl (o_load p31 rfl (by repeat (first | assumption | apply has_left)) rfl) ?_; refine ql_v rfl (o_move (by conv => lhs; whnf)) ?_; refine ql_v rfl (o_nilCheck rfl) ?_; refine ql_v rfl (o_fieldAddr (o := 1) Try.underlying52 rfl rfl sz3 rfl) ?_; refine ql_v rfl (o_load p3 rfl (by repeat (first | assumption | apply has_left)) rfl) ?_; refine ql_c rfl (fun w => exec_call bd53 rfl) (Word_c (s := s) (p := (at_ : Nat))) ?_; refine ql_v rfl (o_move (by conv => lhs; whnf)) ?_; refine ql_v rfl (o_extract rfl rfl) ?_; refine ql_env (d := 36) (v := .int .u64 (v : Nat)) (by show Value.int .u64 ((wordP (at_ : Nat) s).1 : Nat) = _; rw [hv]) ?_; refine ql_v rfl (o_extract rfl rfl) ?_; refine ql_env (d := 37) (v := .int .i64 0) (by show Value.int .i64 (wordP (at_ : Nat) s).2 = _; rw [hw2]) ?_; refine ql_v rfl (o_assign (by conv => lhs; whnf)) ?_; refine ql_v rfl (o_assign (by conv => lhs; whnf)) ?_; refine ql_nil ?_; refine q_then_n ?_; refine sr ?_; refine tlm ?_; refine tv (o_nei rfl rfl) ?_; refine tlm ?_; refine tl_bool (d := 40) rfl (fun h => ?_) (fun h => ?_)
    · exfalso; simp at h
    · try simp only [lv1, lv2, lv3, lv4, lv5, lv6, Bool.not_true, Bool.not_false] at h
      refine tlm ?_; refine tv (o_nei rfl rfl) ?_; refine tv (o_pick_f rfl (by conv => lhs; whnf)) ?_; refine nq ?_; refine tc_cond rfl (fun h => ?_) (fun h => ?_)
      · have hv0 : v ≠ 0 := by first | (have h9 := of_decide_eq_true h; omega) | (simp at h; omega)
        refine sr ?_; refine tla ?_; refine nq ?_; refine tc_ret ?_; refine q_then_r ?_; exact ⟨.int .i64 (3), C (Dev d s), res1 rfl rfl, fun _ _ h => by rw [hC]; exact (Dr.sat (A' := R * Dev d s) (by repeat (first | with_reducible exact dr_refl | apply dr_keep | apply dr_drop))) _ _ h, 3, s, by unfold writeS; rw [if_neg (by rw [ho]; decide), if_pos (by rw [hv]; exact hv0)], rfl, rfl⟩
      · have hv0 : ¬ v ≠ 0 := by first | (have h9 := of_decide_eq_false h; omega) | (simp at h; omega)
        refine tc_skip ?_; refine q_then_n ?_; refine sr ?_; refine tla ?_; refine nq ?_; refine tc_seq ?_; refine sr ?_; refine tlm ?_; refine tv (o_len Try.underlying53 rfl) ?_; refine tlm ?_; refine nq ?_; refine tc_block ?_; refine tc_pre (A' := R * Dev d s * Sl 1 (.slice none 0 0) 0 (ints (lensX (xs.take 0)))) (fun _ _ h => sl_nil h) ?_; refine tc_loop (fun kk ρ BB => ∃ (i : Nat) (a8 : Option Addr) (c8 : Nat), (i ≤ m) ∧ ((xs.take i).all (mayX (s.ls.length * 64) at_ sz) = true) ∧ (i ≤ c8) ∧ kk = m - i ∧ ρ 8 = .slice a8 i c8 ∧ ρ 46 = .int .i64 (i : Nat) ∧ ρ 0 = .pointer (some ⟨bl, 0, none⟩) ∧ ρ 1 = .slice a m c ∧ ρ 44 = .slice a m c ∧ ρ 45 = .int .i64 (m : Nat) ∧ Dr BB (R * Dev d s * Sl 1 (.slice a8 i c8) i (ints (lensX (xs.take i))))) (m := m - (0)) ?_ ?_
        · exact ⟨0, none, 0, by omega, rfl, by omega, rfl, rfl, rfl, rfl, rfl, rfl, rfl, (by repeat (first | with_reducible exact dr_refl | apply dr_keep | apply dr_drop))⟩
        · intro k ρ B hI
          obtain ⟨i, a8, c8, hp0, hp1, hp2, hkk1, hE8, hE46, hE0, hE1, hE44, hE45, hBA⟩ := hI
          refine tc_pre hBA.sat ?_
          clear hBA
          refine tc_env (d := 8) hE8 ?_; refine tc_env (d := 46) hE46 ?_; refine tc_env (d := 0) hE0 ?_; refine tc_env (d := 1) hE1 ?_; refine tc_env (d := 44) hE44 ?_; refine tc_env (d := 45) hE45 ?_
          clear hE8 hE46 hE0 hE1 hE44 hE45
          refine sr ?_; refine tv (o_lss rfl rfl) ?_; refine nq ?_; refine tc_seq ?_; refine tc_cond rfl (fun h => ?_) (fun h => ?_)
          · have hi : i < xs.length := by first | omega | (simp at h; omega)
            obtain ⟨x, hx1⟩ : ∃ x, xs[i] = x := ⟨_, rfl⟩
            have hxw : XW x := hX x (hx1 ▸ List.getElem_mem hi)
            refine tc_skip ?_; refine q_then_n ?_; refine tc_seq ?_; refine tc_block ?_; refine sr ?_; refine tv (o_ixP (a := a) Try.underlying53 sz74 rfl rfl (by omega) (nn_rs (by repeat (first | with_reducible exact rs_sl | assumption | apply Rs.left)) (fun _ => by rw [xcl_len]; omega))) ?_; refine tv (o_ldPN (a := a) (xs := xcl xs) (vs := xcs x) a74 sz74 rfl (by repeat (first | with_reducible exact rs_sl | assumption | apply Rs.left)) (by rw [xcl_at (by omega), hx1]) rfl (by decide)) ?_; refine tl_x rfl (o_alloc z74 rfl) ?_; rintro _ _ ⟨b10, rfl, rfl⟩; refine tl_u rfl (o_stUN (l' := xcs x) rfl (by repeat (first | with_reducible exact upd_here | with_reducible exact upd_pt | apply upd_left)) sz74 rfl rfl rfl (by show 2 ≤ 2; decide) rfl) ?_; refine nq ?_; refine tc_seq ?_; refine sr ?_; refine tlm ?_; refine tv (o_loadN (vs := xcs x) a74 sz74 rfl (by repeat (first | with_reducible exact has_here | with_reducible exact has_pt | apply has_left)) (by show 2 ≤ 2; decide) rfl) ?_; refine tl_c rfl (o_call bd54 rfl (may11_c (s := s) (x := x) (hl := has_left (has_left (has_left hl))))) ?_; rintro _ _ ⟨rfl, rfl⟩; refine tv (o_not rfl) ?_; refine nq ?_; refine tc_cond rfl (fun h => ?_) (fun h => ?_)
            · have hmy : mayX (s.ls.length * 64) at_ sz x = false := by simpa using h
              refine sr ?_; refine tla ?_; refine nq ?_; refine tc_ret ?_; refine q_then_r (q_block_r (q_then_r (q_then_r (q_block_r (q_then_r ?_))))); exact ⟨.int .i64 (6), C (Dev d s), res1 rfl rfl, fun _ _ h => by rw [hC]; exact (Dr.sat (A' := R * Dev d s) (by repeat (first | with_reducible exact dr_refl | apply dr_keep | apply dr_drop))) _ _ h, 6, s, by unfold writeS; rw [if_neg (by rw [ho]; decide), if_neg (by rw [hv]; exact hv0), if_pos (all_not hi (by rw [hx1]; exact hmy))], rfl, rfl⟩
            · have hmy : mayX (s.ls.length * 64) at_ sz x = true := by simpa using h
              refine tc_skip ?_; refine q_then_n ?_; refine tc_reg ?_; refine tlm ?_; refine tv (o_fieldAddr (o := 1) Try.underlying74 rfl rfl sz3 rfl) ?_; refine tv (by first | exact o_load p3 rfl (by repeat (first | with_reducible exact has_here | with_reducible exact has_pt | apply has_left)) rfl | exact o_loadC p3 rfl (by assumption)) ?_; refine tl_x rfl (o_buildSlice1 Try.underlying22 sz3 z3 (by conv => lhs; whnf) rfl) ?_; rintro _ _ ⟨b57, rfl, rfl⟩; refine tl_x rfl (o_apB Try.underlying22 Try.underlying22 sz3 by3 z3 rfl (by decide) (by decide) rfl rfl rfl (by repeat (first | with_reducible exact ct_here | apply ct_left)) rfl (by first | exact bys_all _ | exact ints_all _ | exact wds_all _ | exact bos_all _ | rfl) (by first | omega | (simp only [bys_length, ints_length, wds_length, bos_length, List.length_append, List.length_take, List.length_drop, List.length_singleton]; omega)) (by first | exact bys_sn _ _ | exact ints_sn _ _ | exact wds_sn _ _ | exact bos_sn _ _ | exact (bys_append _ _).symm | rfl)) ?_; rintro _ _ ⟨a58, c58, rfl, hc58, rfl⟩; refine tla ?_; refine tl_nil ?_; refine q_block_n (q_then_n ?_); refine tc_reg ?_; refine tv (by first | exact o_addI rfl rfl (by omega) | exact o_add rfl rfl) ?_; refine tlm ?_; refine nq ?_
              exact ⟨_, by omega, i + 1, _, _, by omega, all_take hi hp1 (by rw [hx1]; exact hmy), hc58, rfl, rfl, rfl, rfl, rfl, rfl, rfl, by rw [lensX_succ hi, hx1]; repeat (first | with_reducible exact dr_refl | apply dr_keep | apply dr_drop)⟩
          · obtain rfl : i = m := by first | omega | (simp at h; omega)
            have htk : xs.take i = xs := List.take_of_length_le (by omega)
            rw [htk] at hp1
            refine tc_pre (A' := R * Dev d s * Sl 1 (.slice a8 i c8) i (ints (lensX xs))) (fun _ _ h => by rw [htk] at h; exact h) ?_
            obtain ⟨nd, en, hnd⟩ : ∃ nd en, needS (lensX xs) = (nd, en) := ⟨_, _, rfl⟩
            have hxl : ∀ x ∈ lensX xs, -9223372036854775808 ≤ x ∧ x ≤ 9223372036854775807 := fun x hx => by obtain ⟨y, hy, rfl⟩ := List.mem_map.1 hx; exact (hX y hy).l
            have hx1 : ∀ x ∈ xs, 1 ≤ x.2 := fun x hx => by obtain ⟨p, n, rfl, _, hn, _⟩ := may_nat (List.all_eq_true.1 hp1 x hx); show (1 : Int) ≤ (n : Int); omega
            have hnd2 : en = 0 → nd = (needN xs : Nat) := fun h9 => by have := needF_ok hx1 hnd h9; omega
            refine tc_exit ?_; refine q_then_e (q_then_e (q_block_x (q_then_n ?_))); refine sr ?_; refine tlm ?_; refine tl_c rfl (o_call bd10 rfl (Need_c (xs := lensX xs) (hr := rs_sl) (hm := (lensX_len xs).trans hm) (hx := hxl))) ?_; rintro _ _ ⟨rfl, rfl⟩; refine tlm ?_; refine tv (o_extract rfl rfl) ?_; refine tl_env (d := 63) (v := .int .i64 nd) (by show Value.int .i64 (needS (lensX xs)).1 = _; rw [hnd]) ?_; refine tv (o_extract rfl rfl) ?_; refine tl_env (d := 64) (v := .int .i64 en) (by show Value.int .i64 (needS (lensX xs)).2 = _; rw [hnd]) ?_; refine tla ?_; refine tla ?_; refine nq ?_; refine tc_seq ?_; refine tc_seq ?_; refine tc_cut (fun ρ BB => ∃ (bb : Bool), (bb = decide (en ≠ 0 ∨ ((sz - 64 : Nat) : Int) < nd)) ∧ ρ 75 = .bool bb ∧ ρ 0 = .pointer (some ⟨bl, 0, none⟩) ∧ ρ 1 = .slice a i c ∧ ρ 11 = .int .i64 nd ∧ Dr BB (R * Dev d s)) ?_ ?_
            · skip
              refine tc_reg ?_; refine tlm ?_; refine tv (o_nei rfl rfl) ?_; refine tlm ?_; refine tl_bool (d := 67) rfl (fun h => ?_) (fun h => ?_)
              · have g67 : (en ≠ 0) := by first | exact of_decide_eq_true h | (have h2 := h; simp at h2; omega) | simpa using h
                refine tk ?_; refine tk ?_; refine tk ?_; refine tk ?_; refine tk ?_; refine tk ?_; refine tk ?_; refine tv (o_pick_t rfl (by conv => lhs; whnf)) ?_; refine tl_nil ?_; exact ⟨_, by first | exact (decide_eq_true (by omega)).symm | exact (decide_eq_false (by omega)).symm | (rw [decide_eq_decide]; omega), rfl, rfl, rfl, rfl, (by repeat (first | with_reducible exact dr_refl | apply dr_keep | apply dr_drop))⟩
              · have g67 : ¬ (en ≠ 0) := by first | exact of_decide_eq_false h | (have h2 := h; simp at h2; omega) | simpa using h
                refine tlm ?_; refine tlm ?_; refine tv (o_nilCheck rfl) ?_; refine tv (o_fieldAddr (o := 2) Try.underlying52 rfl rfl sz3 rfl) ?_; refine tv (o_load p3 rfl (by repeat (first | assumption | apply has_left)) rfl) ?_; refine tv (o_subI rfl rfl (by omega)) ?_; refine tl_env (d := 73) (v := .int .i64 ((sz - 64 : Nat) : Int)) (by show Value.int .i64 ((sz : Int) - 64) = _; congr 1; omega) ?_; refine tv (o_gtr rfl rfl) ?_; refine tv (o_pick_f rfl (by conv => lhs; whnf)) ?_; refine tl_nil ?_; exact ⟨_, by first | exact (decide_eq_true (by omega)).symm | exact (decide_eq_false (by omega)).symm | (rw [decide_eq_decide]; omega), rfl, rfl, rfl, rfl, (by repeat (first | with_reducible exact dr_refl | apply dr_keep | apply dr_drop))⟩
            · intro ρ B hI
              obtain ⟨bb, hbb0, hE75, hE0, hE1, hE11, hBA⟩ := hI
              refine q_then_n ?_; refine tc_pre hBA.sat ?_
              clear hBA
              refine tc_env (d := 75) hE75 ?_; refine tc_env (d := 0) hE0 ?_; refine tc_env (d := 1) hE1 ?_; refine tc_env (d := 11) hE11 ?_
              clear hE75 hE0 hE1 hE11
              refine tc_cond rfl (fun h => ?_) (fun h => ?_)
              · have hful := of_decide_eq_true (show decide (en ≠ 0 ∨ ((sz - 64 : Nat) : Int) < nd) = true by rw [← hbb0]; exact h)
                refine sr ?_; refine tla ?_; refine nq ?_; refine tc_ret ?_; refine q_then_r ?_; exact ⟨.int .i64 (111), C (Dev d s), res1 rfl rfl, fun _ _ h => by rw [hC]; exact (Dr.sat (A' := R * Dev d s) (by repeat (first | with_reducible exact dr_refl | apply dr_keep | apply dr_drop))) _ _ h, 111, s, by unfold writeS; rw [if_neg (by rw [ho]; decide), if_neg (by rw [hv]; exact hv0), if_neg (by rw [hp1]; decide), hnd, if_pos hful], rfl, rfl⟩
              · have hful := of_decide_eq_false (show decide (en ≠ 0 ∨ ((sz - 64 : Nat) : Int) < nd) = false by rw [← hbb0]; exact h)
                obtain rfl : en = 0 := by omega
                obtain rfl := hnd2 rfl
                have hN : needN xs ≤ sz - 64 := by omega
                refine tc_skip ?_; refine q_then_n ?_; refine tc_seq ?_; refine sr ?_; refine tlm ?_; refine tv (o_eqi rfl rfl) ?_; refine nq ?_; refine tc_cond rfl (fun h => ?_) (fun h => ?_)
                · have hx0 : xs = [] := by have h9 := needN_ge xs; have h8 : needN xs = 0 := (by first | (have := of_decide_eq_true h; omega) | (simp at h; omega)); exact List.eq_nil_of_length_eq_zero (by omega)
                  refine sr ?_; refine tla ?_; refine nq ?_; refine tc_ret ?_; refine q_then_r ?_; exact ⟨.int .i64 (0), C (Dev d s), res1 rfl rfl, fun _ _ h => by rw [hC]; exact (Dr.sat (A' := R * Dev d s) (by repeat (first | with_reducible exact dr_refl | apply dr_keep | apply dr_drop))) _ _ h, 0, s, by unfold writeS; rw [if_neg (by rw [ho]; decide), if_neg (by rw [hv]; exact hv0), if_neg (by rw [hp1]; decide), hnd, if_neg hful, if_pos hx0], rfl, rfl⟩
                · have hx0 : xs ≠ [] := fun e => by subst e; first | exact of_decide_eq_false h rfl | exact h rfl | (simp [needN] at h)
                  have hxl0 : 0 < xs.length := List.length_pos_iff.2 hx0
                  have hN1 := needN_ge xs
                  refine tc_skip ?_; refine q_then_n ?_; refine sr ?_; refine tlm ?_; refine tv (o_nilCheck rfl) ?_; refine tv (o_fieldAddr (o := 1) Try.underlying52 rfl rfl sz3 rfl) ?_; refine tv (o_load p3 rfl (by repeat (first | assumption | apply has_left)) rfl) ?_; refine tv (by first | exact o_addI rfl rfl (by omega) | exact o_add rfl rfl) ?_; refine tl_env (d := 82) (v := .int .i64 ((at_ + 64 : Nat) : Int)) (by first | rfl | (show Value.int .i64 _ = _; congr 1; omega)) ?_; refine tla ?_; refine nq ?_; refine tc_seq ?_; refine sr ?_; refine tlm ?_; refine tv (o_len Try.underlying53 rfl) ?_; refine tlm ?_; refine nq ?_; refine tc_block ?_; refine tc_loop (fun kk ρ BB => ∃ (j : Nat) (q : Nat) (s1 : DevS), (j ≤ i) ∧ (putF (at_ + 64) xs s = putF q (xs.drop j) s1) ∧ (s1.off = false) ∧ (s1.ls.length = s.ls.length) ∧ (q + needN (xs.drop j) = at_ + 64 + needN xs) ∧ (Room (needN (xs.drop j) + 1) s1) ∧ kk = i - j ∧ ρ 13 = .int .i64 (q : Nat) ∧ ρ 85 = .int .i64 (j : Nat) ∧ ρ 0 = .pointer (some ⟨bl, 0, none⟩) ∧ ρ 1 = .slice a i c ∧ ρ 11 = .int .i64 (needN xs : Nat) ∧ ρ 83 = .slice a i c ∧ ρ 84 = .int .i64 (i : Nat) ∧ Dr BB (R * Dev d s1)) (m := i - (0)) ?_ ?_
                  · exact ⟨0, at_ + 64, s, by omega, rfl, ho, rfl, by rw [List.drop_zero], fun l hl => by have := hroom l hl; rw [List.drop_zero]; omega, rfl, rfl, rfl, rfl, rfl, rfl, rfl, rfl, (by repeat (first | with_reducible exact dr_refl | apply dr_keep | apply dr_drop))⟩
                  · intro k ρ B hI
                    obtain ⟨j, q, s1, hq0, hq1, hq2, hq3, hq4, hq5, hkk2, hE13, hE85, hE0, hE1, hE11, hE83, hE84, hBA⟩ := hI
                    refine tc_pre hBA.sat ?_
                    clear hBA
                    refine tc_env (d := 13) hE13 ?_; refine tc_env (d := 85) hE85 ?_; refine tc_env (d := 0) hE0 ?_; refine tc_env (d := 1) hE1 ?_; refine tc_env (d := 11) hE11 ?_; refine tc_env (d := 83) hE83 ?_; refine tc_env (d := 84) hE84 ?_
                    clear hE13 hE85 hE0 hE1 hE11 hE83 hE84
                    refine sr ?_; refine tv (o_lss rfl rfl) ?_; refine nq ?_; refine tc_seq ?_; refine tc_cond rfl (fun h => ?_) (fun h => ?_)
                    · have hj : j < xs.length := by first | omega | (simp at h; omega)
                      obtain ⟨x, hx1⟩ : ∃ x, xs[j] = x := ⟨_, rfl⟩
                      have hmx := all_drop hp1 hj
                      have hdr := List.drop_eq_getElem_cons hj
                      rw [hx1] at hmx hdr
                      obtain ⟨p, n, rfl, y1, y2, y3, y4⟩ := may_nat hmx
                      rw [hdr, needN_cons] at hq4 hq5
                      simp only [Int.toNat_natCast] at hq4 hq5
                      refine tc_have (fun _ _ h => ct_wf2 (by repeat (first | with_reducible exact ct_here | apply ct_left)) h) fun hw1 => ?_
                      have hil := imgS_len hw1
                      have hol : (((imgS s1).drop p).take n).length = n := by rw [List.length_take, List.length_drop, hil, hq3]; omega
                      have hrl : (recS p (((imgS s1).drop p).take n)).length = 24 + up8 n := by rw [recS_len, hol]
                      have hrb : ∀ x ∈ recS p (((imgS s1).drop p).take n), x < 256 := recS_b img_sub
                      have hu8 := up8_le n
                      refine tc_skip ?_; refine q_then_n ?_; refine tc_seq ?_; refine tc_block ?_; refine sr ?_; refine tv (o_ixP (a := a) Try.underlying53 sz74 rfl rfl (by omega) (nn_rs (by repeat (first | with_reducible exact rs_sl | assumption | apply Rs.left)) (fun _ => by rw [xcl_len]; omega))) ?_; refine tv (o_ldPN (a := a) (xs := xcl xs) (vs := xcs ((p : Int), (n : Int))) a74 sz74 rfl (by repeat (first | with_reducible exact rs_sl | assumption | apply Rs.left)) (by rw [xcl_at (by omega), hx1]) rfl (by decide)) ?_; refine tl_x rfl (o_alloc z74 rfl) ?_; rintro _ _ ⟨b15, rfl, rfl⟩; refine tl_u rfl (o_stUN (l' := xcs ((p : Int), (n : Int))) rfl (by repeat (first | with_reducible exact upd_here | with_reducible exact upd_pt | apply upd_left)) sz74 rfl rfl rfl (by show 2 ≤ 2; decide) rfl) ?_; refine nq ?_; refine tc_seq ?_; refine tc_regh (S := R * pt b15 (cl (xcs ((p : Int), (n : Int))) 74)) mo (by repeat (first | with_reducible exact dr_refl | apply dr_keep | apply dr_drop)) ?_
                      show TH _ _ _ _ _ 14 #[ff,ff,ff,ff,ff,ff,ff,ff,ff,ff,ff,ff,ff,ff] _ _
                      refine th_take (i := 0) (listed' := #[tt,ff,ff,ff,ff,ff,ff,ff,ff,ff,ff,ff,ff,ff]) rfl (by kernel_rfl) (by kernel_rfl) (by kernel_rfl) rfl rfl (o_move (by conv => lhs; whnf)) ?_; refine th_take (i := 1) (listed' := #[tt,tt,ff,ff,ff,ff,ff,ff,ff,ff,ff,ff,ff,ff]) rfl (by kernel_rfl) (by kernel_rfl) (by kernel_rfl) rfl rfl (o_nilCheck rfl) ?_; refine th_take (i := 2) (listed' := #[tt,tt,tt,ff,ff,ff,ff,ff,ff,ff,ff,ff,ff,ff]) rfl (by kernel_rfl) (by kernel_rfl) (by kernel_rfl) rfl rfl (o_fieldAddr (o := 0) Try.underlying52 rfl rfl sz31 rfl) ?_; refine th_take (i := 3) (listed' := #[tt,tt,tt,tt,ff,ff,ff,ff,ff,ff,ff,ff,ff,ff]) rfl (by kernel_rfl) (by kernel_rfl) (by kernel_rfl) rfl rfl (o_load p31 rfl (by repeat (first | assumption | apply has_left)) rfl) ?_; refine th_take (i := 4) (listed' := #[tt,tt,tt,tt,tt,ff,ff,ff,ff,ff,ff,ff,ff,ff]) rfl (by kernel_rfl) (by kernel_rfl) (by kernel_rfl) rfl rfl (o_fieldAddr (o := 0) Try.underlying74 rfl rfl sz3 rfl) ?_; refine th_take (i := 5) (listed' := #[tt,tt,tt,tt,tt,tt,ff,ff,ff,ff,ff,ff,ff,ff]) rfl (by kernel_rfl) (by kernel_rfl) (by kernel_rfl) rfl rfl (by first | exact o_load p3 rfl (by repeat (first | with_reducible exact has_here | with_reducible exact has_pt | apply has_left)) rfl | exact o_loadC p3 rfl (by assumption)) ?_; refine th_take (i := 6) (listed' := #[tt,tt,tt,tt,tt,tt,tt,ff,ff,ff,ff,ff,ff,ff]) rfl (by kernel_rfl) (by kernel_rfl) (by kernel_rfl) rfl rfl (o_fieldAddr (o := 1) Try.underlying74 rfl rfl sz3 rfl) ?_
                      refine th_take (i := 7) (listed' := #[tt,tt,tt,tt,tt,tt,tt,tt,ff,ff,ff,ff,ff,ff]) rfl (by kernel_rfl) (by kernel_rfl) (by kernel_rfl) rfl rfl (by first | exact o_load p3 rfl (by repeat (first | with_reducible exact has_here | with_reducible exact has_pt | apply has_left)) rfl | exact o_loadC p3 rfl (by assumption)) ?_; refine th_one (i := 8) (by kernel_rfl) ?_; refine oh_c (i := 8) (listed' := #[tt,tt,tt,tt,tt,tt,tt,tt,tt,ff,ff,ff,ff,ff]) rfl rfl rfl (o_call bd48 rfl (Load_c (s := s1) (p := p) (m := n))) ?_; rintro _ _ ⟨a98, c98, rfl, hc98, rfl⟩; refine ⟨by repeat (first | with_reducible exact dr_refl | apply dr_keep | apply dr_drop), ?_⟩; refine th_take (i := 9) (listed' := #[tt,tt,tt,tt,tt,tt,tt,tt,tt,tt,ff,ff,ff,ff]) rfl (by kernel_rfl) (by kernel_rfl) (by kernel_rfl) rfl rfl (o_move (by conv => lhs; whnf)) ?_; refine th_take (i := 10) (listed' := #[tt,tt,tt,tt,tt,tt,tt,tt,tt,tt,tt,ff,ff,ff]) rfl (by kernel_rfl) (by kernel_rfl) (by kernel_rfl) rfl rfl (o_extract rfl rfl) ?_; refine th_take (i := 11) (listed' := #[tt,tt,tt,tt,tt,tt,tt,tt,tt,tt,tt,tt,ff,ff]) rfl (by kernel_rfl) (by kernel_rfl) (by kernel_rfl) rfl rfl (o_extract rfl rfl) ?_; refine th_take (i := 12) (listed' := #[tt,tt,tt,tt,tt,tt,tt,tt,tt,tt,tt,tt,tt,ff]) rfl (by kernel_rfl) (by kernel_rfl) (by kernel_rfl) rfl rfl (o_assign (by conv => lhs; whnf)) ?_
                      refine th_take (i := 13) (listed' := #[tt,tt,tt,tt,tt,tt,tt,tt,tt,tt,tt,tt,tt,tt]) rfl (by kernel_rfl) (by kernel_rfl) (by kernel_rfl) rfl rfl (o_assign (by conv => lhs; whnf)) ?_; refine th_done (by kernel_rfl) ?_; refine q_then_n ?_; refine tc_seq ?_; refine sr ?_; refine tlm ?_; refine tv (o_nei rfl rfl) ?_; refine nq ?_; refine tc_cond rfl (fun h => ?_) (fun h => ?_)
                      · exfalso; simp at h
                      · try simp only [lv1, lv2, lv3, lv4, lv5, lv6, Bool.not_true, Bool.not_false] at h
                        refine tc_skip ?_; refine q_then_n ?_; refine sr ?_; refine tv (o_fieldAddr (o := 0) Try.underlying74 rfl rfl sz3 rfl) ?_; refine tv (by first | exact o_load p3 rfl (by repeat (first | with_reducible exact has_here | with_reducible exact has_pt | apply has_left)) rfl | exact o_loadC p3 rfl (by assumption)) ?_; refine tlm ?_; refine tl_c rfl (o_call bd55 rfl (record_c (p := p) (xs := ((imgS s1).drop p).take n) (hr := rs_sl) (hm := hol) (hb := img_sub))) ?_; rintro _ _ ⟨a107, c107, rfl, hc107, rfl⟩; refine tla ?_; refine nq ?_; refine tc_seq ?_; refine sr ?_; refine tlm ?_; refine tv (o_nilCheck rfl) ?_; refine tv (o_fieldAddr (o := 0) Try.underlying52 rfl rfl sz31 rfl) ?_; refine tv (o_load p31 rfl (by repeat (first | assumption | apply has_left)) rfl) ?_; refine tlm ?_; refine tlm ?_; refine tl_c rfl (o_call bd47 rfl (Store_c (s := s1) (p := (q : Nat)) (xs := recS p (((imgS s1).drop p).take n)) (hm := hrl) (hb := hrb) (hroom := fun _ l hl => by have := hq5 l hl; omega))) ?_
                        rintro _ _ ⟨e114, s114, hs114, rfl, rfl⟩; refine tla ?_; refine nq ?_; refine sr ?_; refine tlm ?_; refine tv (o_nei rfl rfl) ?_; refine nq ?_; refine tc_cond rfl (fun h => ?_) (fun h => ?_)
                        · have he0 : e114 ≠ 0 := by simpa using h
                          have hput : putF (at_ + 64) xs s = (e114, s114) := by rw [hq1, hdr]; exact putF_e hs114 he0
                          refine sr ?_; refine tlm ?_; refine tla ?_; refine nq ?_; refine tc_ret ?_; refine q_then_r (q_block_r (q_then_r (q_then_r (q_block_r (q_then_r ?_))))); exact ⟨.int .i64 (e114), C (Dev d s114), res1 rfl rfl, fun _ _ h => by rw [hC]; exact (Dr.sat (A' := R * Dev d s114) (by repeat (first | with_reducible exact dr_refl | apply dr_keep | apply dr_drop))) _ _ h, e114, s114, by unfold writeS; rw [if_neg (by rw [ho]; decide), if_neg (by rw [hv]; exact hv0), if_neg (by rw [hp1]; decide), hnd, if_neg hful, if_neg hx0, hput, if_pos he0], rfl, rfl⟩
                        · obtain rfl : e114 = 0 := by simpa using h
                          refine tc_skip ?_; refine q_then_n ?_; refine tc_reg ?_; refine tlm ?_; refine tlm ?_; refine tv (o_len Try.underlying60 rfl) ?_; refine tv (by first | exact o_addI rfl rfl (by omega) | exact o_add rfl rfl) ?_; refine tl_env (d := 121) (v := .int .i64 ((q + (24 + up8 n) : Nat) : Int)) (by first | rfl | (show Value.int .i64 _ = _; congr 1; omega)) ?_; refine tla ?_; refine tl_nil ?_; refine q_block_n (q_then_n ?_); refine tc_reg ?_; refine tv (by first | exact o_addI rfl rfl (by omega) | exact o_add rfl rfl) ?_; refine tlm ?_; refine nq ?_; exact ⟨_, by omega, j + 1, _, _, by omega, by rw [hq1, hdr]; exact putF_o hs114, by rw [sto_on hs114]; exact hq2, by have h9 := sto_len (q : Nat) (recS p (((imgS s1).drop p).take n)) s1; rw [hs114] at h9; exact h9.trans hq3, by omega, sto_room hs114 hw1 hrb (fun l hl => by have := hq5 l hl; rw [hrl]; omega), rfl, rfl, rfl, rfl, rfl, rfl, rfl, rfl, (by repeat (first | with_reducible exact dr_refl | apply dr_keep | apply dr_drop))⟩
                    · obtain rfl : j = i := by first | omega | (simp at h; omega)
                      have hput : putF (at_ + 64) xs s = (0, s1) := by rw [hq1, List.drop_eq_nil_of_le (by omega)]; rfl
                      refine tc_have (fun _ _ h => ct_wf2 (by repeat (first | with_reducible exact ct_here | apply ct_left)) h) fun hw1 => ?_
                      have hr1 : Room 1 s1 := fun l hl => by have := hq5 l hl; omega
                      refine tc_exit ?_; refine q_then_e (q_then_e (q_block_x (q_then_n ?_))); refine tc_seq ?_; refine tc_seq ?_; refine tc_regh (S := R) mo (by repeat (first | with_reducible exact dr_refl | apply dr_keep | apply dr_drop)) ?_
                      show TH _ _ _ _ _ 12 #[ff,ff,ff,ff,ff,ff,ff,ff,ff,ff,ff,ff] _ _
                      refine th_take (i := 0) (listed' := #[tt,ff,ff,ff,ff,ff,ff,ff,ff,ff,ff,ff]) rfl (by kernel_rfl) (by kernel_rfl) (by kernel_rfl) rfl rfl (o_move (by conv => lhs; whnf)) ?_; refine th_take (i := 1) (listed' := #[tt,tt,ff,ff,ff,ff,ff,ff,ff,ff,ff,ff]) rfl (by kernel_rfl) (by kernel_rfl) (by kernel_rfl) rfl rfl (o_nilCheck rfl) ?_; refine th_take (i := 2) (listed' := #[tt,tt,tt,ff,ff,ff,ff,ff,ff,ff,ff,ff]) rfl (by kernel_rfl) (by kernel_rfl) (by kernel_rfl) rfl rfl (o_fieldAddr (o := 0) Try.underlying52 rfl rfl sz31 rfl) ?_; refine th_take (i := 3) (listed' := #[tt,tt,tt,tt,ff,ff,ff,ff,ff,ff,ff,ff]) rfl (by kernel_rfl) (by kernel_rfl) (by kernel_rfl) rfl rfl (o_load p31 rfl (by repeat (first | assumption | apply has_left)) rfl) ?_; refine th_take (i := 4) (listed' := #[tt,tt,tt,tt,tt,ff,ff,ff,ff,ff,ff,ff]) rfl (by kernel_rfl) (by kernel_rfl) (by kernel_rfl) rfl rfl (o_move (by conv => lhs; whnf)) ?_; refine th_take (i := 5) (listed' := #[tt,tt,tt,tt,tt,tt,ff,ff,ff,ff,ff,ff]) rfl (by kernel_rfl) (by kernel_rfl) (by kernel_rfl) rfl rfl (o_nilCheck rfl) ?_; refine th_take (i := 6) (listed' := #[tt,tt,tt,tt,tt,tt,tt,ff,ff,ff,ff,ff]) rfl (by kernel_rfl) (by kernel_rfl) (by kernel_rfl) rfl rfl (o_fieldAddr (o := 1) Try.underlying52 rfl rfl sz3 rfl) ?_; refine th_take (i := 7) (listed' := #[tt,tt,tt,tt,tt,tt,tt,tt,ff,ff,ff,ff]) rfl (by kernel_rfl) (by kernel_rfl) (by kernel_rfl) rfl rfl (o_load p3 rfl (by repeat (first | assumption | apply has_left)) rfl) ?_
                      refine th_take (i := 8) (listed' := #[tt,tt,tt,tt,tt,tt,tt,tt,tt,ff,ff,ff]) rfl (by kernel_rfl) (by kernel_rfl) (by kernel_rfl) rfl rfl (by first | exact o_addI rfl rfl (by omega) | exact o_add rfl rfl) ?_; refine th_env (d := 131) (v := .int .i64 ((at_ + 64 : Nat) : Int)) (by first | rfl | (show Value.int .i64 _ = _; congr 1; omega)) ?_; refine th_take (i := 9) (listed' := #[tt,tt,tt,tt,tt,tt,tt,tt,tt,tt,ff,ff]) rfl (by kernel_rfl) (by kernel_rfl) (by kernel_rfl) rfl rfl (o_move (by conv => lhs; whnf)) ?_; refine th_one (i := 10) (by kernel_rfl) ?_; refine oh_c (i := 10) (listed' := #[tt,tt,tt,tt,tt,tt,tt,tt,tt,tt,tt,ff]) rfl rfl rfl (o_call bd56 rfl (Range_c (s := s1) (p := ((at_ + 64 : Nat) : Int)) (m := (needN xs : Nat)))) ?_; rintro _ _ ⟨e133, s133, hs133, rfl, rfl⟩; refine ⟨by repeat (first | with_reducible exact dr_refl | apply dr_keep | apply dr_drop), ?_⟩; refine th_take (i := 11) (listed' := #[tt,tt,tt,tt,tt,tt,tt,tt,tt,tt,tt,tt]) rfl (by kernel_rfl) (by kernel_rfl) (by kernel_rfl) rfl rfl (o_assign (by conv => lhs; whnf)) ?_; refine th_done (by kernel_rfl) ?_; refine q_then_n ?_; refine sr ?_; refine tlm ?_; refine tv (o_nei rfl rfl) ?_; refine tl_nil ?_
                      refine q_then_n ?_; refine tc_cond rfl (fun h => ?_) (fun h => ?_)
                      · have he1 : e133 ≠ 0 := by simpa using h
                        refine sr ?_; refine tlm ?_; refine tla ?_; refine nq ?_; refine tc_ret ?_; refine q_then_r ?_; exact ⟨.int .i64 (e133), C (Dev d s133), res1 rfl rfl, fun _ _ h => by rw [hC]; exact (Dr.sat (A' := R * Dev d s133) (by repeat (first | with_reducible exact dr_refl | apply dr_keep | apply dr_drop))) _ _ h, e133, s133, by unfold writeS; rw [if_neg (by rw [ho]; decide), if_neg (by rw [hv]; exact hv0), if_neg (by rw [hp1]; decide), hnd, if_neg hful, if_neg hx0, hput, if_neg (by simp)]; simp only []; rw [hs133, if_pos he1], rfl, rfl⟩
                      · obtain rfl : e133 = 0 := by simpa using h
                        have hr2 := rangeP_room hs133 hw1 hr1
                        refine tc_skip ?_; refine q_then_n ?_; refine tc_seq ?_; refine tc_regh (S := R) mo (by repeat (first | with_reducible exact dr_refl | apply dr_keep | apply dr_drop)) ?_
                        show TH _ _ _ _ _ 13 #[ff,ff,ff,ff,ff,ff,ff,ff,ff,ff,ff,ff,ff] _ _
                        refine th_take (i := 0) (listed' := #[tt,ff,ff,ff,ff,ff,ff,ff,ff,ff,ff,ff,ff]) rfl (by kernel_rfl) (by kernel_rfl) (by kernel_rfl) rfl rfl (o_move (by conv => lhs; whnf)) ?_; refine th_take (i := 1) (listed' := #[tt,tt,ff,ff,ff,ff,ff,ff,ff,ff,ff,ff,ff]) rfl (by kernel_rfl) (by kernel_rfl) (by kernel_rfl) rfl rfl (o_nilCheck rfl) ?_; refine th_take (i := 2) (listed' := #[tt,tt,tt,ff,ff,ff,ff,ff,ff,ff,ff,ff,ff]) rfl (by kernel_rfl) (by kernel_rfl) (by kernel_rfl) rfl rfl (o_fieldAddr (o := 0) Try.underlying52 rfl rfl sz31 rfl) ?_; refine th_take (i := 3) (listed' := #[tt,tt,tt,tt,ff,ff,ff,ff,ff,ff,ff,ff,ff]) rfl (by kernel_rfl) (by kernel_rfl) (by kernel_rfl) rfl rfl (o_load p31 rfl (by repeat (first | assumption | apply has_left)) rfl) ?_; refine th_take (i := 4) (listed' := #[tt,tt,tt,tt,tt,ff,ff,ff,ff,ff,ff,ff,ff]) rfl (by kernel_rfl) (by kernel_rfl) (by kernel_rfl) rfl rfl (o_move (by conv => lhs; whnf)) ?_; refine th_take (i := 5) (listed' := #[tt,tt,tt,tt,tt,tt,ff,ff,ff,ff,ff,ff,ff]) rfl (by kernel_rfl) (by kernel_rfl) (by kernel_rfl) rfl rfl (o_nilCheck rfl) ?_; refine th_take (i := 6) (listed' := #[tt,tt,tt,tt,tt,tt,tt,ff,ff,ff,ff,ff,ff]) rfl (by kernel_rfl) (by kernel_rfl) (by kernel_rfl) rfl rfl (o_fieldAddr (o := 1) Try.underlying52 rfl rfl sz3 rfl) ?_; refine th_take (i := 7) (listed' := #[tt,tt,tt,tt,tt,tt,tt,tt,ff,ff,ff,ff,ff]) rfl (by kernel_rfl) (by kernel_rfl) (by kernel_rfl) rfl rfl (o_load p3 rfl (by repeat (first | assumption | apply has_left)) rfl) ?_
                        refine th_take (i := 8) (listed' := #[tt,tt,tt,tt,tt,tt,tt,tt,tt,ff,ff,ff,ff]) rfl (by kernel_rfl) (by kernel_rfl) (by kernel_rfl) rfl rfl (o_move (by conv => lhs; whnf)) ?_; refine th_take (i := 9) (listed' := #[tt,tt,tt,tt,tt,tt,tt,tt,tt,tt,ff,ff,ff]) rfl (by kernel_rfl) (by kernel_rfl) (by kernel_rfl) rfl rfl (o_len Try.underlying53 rfl) ?_; refine th_take (i := 10) (listed' := #[tt,tt,tt,tt,tt,tt,tt,tt,tt,tt,tt,ff,ff]) rfl (by kernel_rfl) (by kernel_rfl) (by kernel_rfl) rfl rfl (by first | exact o_conv64 Try.underlying3 Try.underlying89 rfl | exact o_conv Try.underlying3 Try.underlying89 rfl) ?_; refine th_env (d := 147) (v := .int .u64 ((xs.length : Nat) : Int)) (by rw [hm]; exact congrArg (fun z : Nat => Value.int .u64 (z : Int)) (Nat.mod_eq_of_lt (by omega))) ?_; refine th_one (i := 11) (by kernel_rfl) ?_; refine oh_c (i := 11) (listed' := #[tt,tt,tt,tt,tt,tt,tt,tt,tt,tt,tt,tt,ff]) rfl rfl rfl (o_call bd57 rfl (Publish_c (s := s133) (p := (at_ : Nat)) (v := xs.length))) ?_; rintro _ _ ⟨e148, s148, hs148, rfl, rfl⟩; refine ⟨by repeat (first | with_reducible exact dr_refl | apply dr_keep | apply dr_drop), ?_⟩; refine th_take (i := 12) (listed' := #[tt,tt,tt,tt,tt,tt,tt,tt,tt,tt,tt,tt,tt]) rfl (by kernel_rfl) (by kernel_rfl) (by kernel_rfl) rfl rfl (o_assign (by conv => lhs; whnf)) ?_
                        refine th_done (by kernel_rfl) ?_; refine q_then_n ?_; refine tc_ret ?_; exact ⟨.int .i64 (e148), C (Dev d s148), res1 rfl rfl, fun _ _ h => by rw [hC]; exact (Dr.sat (A' := R * Dev d s148) (by repeat (first | with_reducible exact dr_refl | apply dr_keep | apply dr_drop))) _ _ h, e148, s148, by unfold writeS; rw [if_neg (by rw [ho]; decide), if_neg (by rw [hv]; exact hv0), if_neg (by rw [hp1]; decide), hnd, if_neg hful, if_neg hx0, hput, if_neg (by simp)]; simp only []; rw [hs133, if_neg (by simp)]; exact hs148, rfl, rfl⟩
end Go.Vl

set_option linter.unusedVariables false
set_option linter.unusedSimpArgs false
namespace Go.Vl
open Go Go.Proofs
/-! ### Losses of power that may come yet -/
def phi (s : DevS) : Nat := s.arms.length + (if s.off = true then 1 else 0)
theorem done_phi (s : DevS) : phi (doneS s) ≤ phi s := by
  unfold phi doneS
  cases e : s.arms with
  | nil => simp [e]
  | cons a ar =>
    simp only
    split
    · simp [e]
    · simp only [goesS, if_true, List.length_cons]; omega
theorem phi_of {s s' : DevS} (h1 : s'.arms = s.arms) (h2 : s'.off = s.off) : phi s' = phi s := by unfold phi; rw [h1, h2]
theorem phi_onLine (f : LineS → LineS) (i : Nat) (s : DevS) : phi (onLine f i s) = phi s := phi_of (onLine_fields f i s).2.1 (onLine_fields f i s).2.2.2.1
theorem lay_phi (q v : Nat) (s : DevS) : phi (layS q v s) = phi s := by unfold layS; exact phi_onLine _ _ _
theorem storeF_phi : ∀ (m : Nat) {p : Nat} {b : List Nat} {s : DevS}, b.length = m → phi (storeF b.length p b s).2 ≤ phi s := by
  intro m
  induction m using Nat.strongRecOn with
  | _ m ih =>
    intro p b s hm
    by_cases h0 : b = []
    · subst h0; rw [storeF_nil]; exact Nat.le_refl _
    · have hpos : 0 < b.length := List.length_pos_iff.2 h0
      rw [storeF_step h0]
      have h1 := done_phi (layS (p - p % 8) (nm (stW p b s)) s)
      rw [lay_phi] at h1
      split
      · exact h1
      · exact Nat.le_trans (ih (b.drop (8 - p % 8)).length (by rw [List.length_drop]; omega) rfl) h1
theorem sto_phi (p : Int) (b : List Nat) (s : DevS) : phi (sto p b s).2 ≤ phi s := by
  unfold sto; split
  · exact Nat.le_refl _
  · exact storeF_phi _ rfl
theorem fl1_phi (p : Int) (s : DevS) : phi (fl1 p s).2 ≤ phi s := by
  unfold fl1; split
  · exact Nat.le_refl _
  · have h1 := done_phi (flushS p.toNat s)
    have : phi (flushS p.toNat s) = phi s := by unfold flushS; exact phi_onLine _ _ _
    show phi (doneS (flushS p.toNat s)) ≤ phi s
    omega
theorem fe_phi (s : DevS) : phi (fe s).2 ≤ phi s := by
  unfold fe; split
  · exact Nat.le_refl _
  · have h1 := done_phi (fenceS s)
    have : phi (fenceS s) = phi s := phi_of rfl rfl
    simp only; omega
theorem flF_phi : ∀ (k q : Nat) (s : DevS), phi (flF k q s).2 ≤ phi s
  | 0, _, s => fe_phi s
  | k + 1, q, s => by
    show phi (if (fl1 ((q * 64 : Nat) : Int) s).1 ≠ 0 then fl1 ((q * 64 : Nat) : Int) s else flF k (q + 1) (fl1 ((q * 64 : Nat) : Int) s).2).2 ≤ _
    have h1 := fl1_phi ((q * 64 : Nat) : Int) s
    split
    · exact h1
    · exact Nat.le_trans (flF_phi k _ _) h1
theorem flL_phi : ∀ (k q : Nat) (s : DevS), phi (flL k q s).2 ≤ phi s
  | 0, _, s => Nat.le_refl _
  | k + 1, q, s => by
    show phi (if (fl1 ((q * 64 : Nat) : Int) s).1 ≠ 0 then fl1 ((q * 64 : Nat) : Int) s else flL k (q + 1) (fl1 ((q * 64 : Nat) : Int) s).2).2 ≤ _
    have h1 := fl1_phi ((q * 64 : Nat) : Int) s
    split
    · exact h1
    · exact Nat.le_trans (flL_phi k _ _) h1
theorem lastS_phi (p m : Nat) (s : DevS) : phi (lastS p m s).2 ≤ phi s := flF_phi _ _ _
theorem st8_phi (p : Int) (v : Nat) (s : DevS) : phi (st8 p v s).2 ≤ phi s := by
  unfold st8; split
  · exact Nat.le_refl _
  · split
    · exact Nat.le_refl _
    · have h1 := done_phi (layS p.toNat v s); rw [lay_phi] at h1; exact h1
theorem pubP_phi (p : Int) (v : Nat) (s : DevS) : phi (pubP p v s).2 ≤ phi s := by
  unfold pubP
  have h1 := st8_phi p v s
  split
  · exact h1
  · exact Nat.le_trans (lastS_phi _ _ _) h1
theorem rangeP_phi (p m : Int) (s : DevS) : phi (rangeP p m s).2 ≤ phi s := by
  unfold rangeP
  split; exact Nat.le_refl _
  split; exact Nat.le_refl _
  split; exact Nat.le_refl _
  exact lastS_phi _ _ _
theorem putF_phi : ∀ (l : List (Int × Int)) (q : Nat) (s : DevS), phi (putF q l s).2 ≤ phi s
  | [], _, _ => Nat.le_refl _
  | x :: l, q, s => by
    show phi (if (sto (q : Nat) (recS x.1.toNat (((imgS s).drop x.1.toNat).take x.2.toNat)) s).1 ≠ 0 then sto (q : Nat) (recS x.1.toNat (((imgS s).drop x.1.toNat).take x.2.toNat)) s
      else putF (q + (24 + up8 x.2.toNat)) l (sto (q : Nat) (recS x.1.toNat (((imgS s).drop x.1.toNat).take x.2.toNat)) s).2).2 ≤ _
    have h1 := sto_phi (q : Nat) (recS x.1.toNat (((imgS s).drop x.1.toNat).take x.2.toNat)) s
    split
    · exact h1
    · exact Nat.le_trans (putF_phi l _ _) h1
theorem writeS_phi (at_ sz : Nat) (l : List (Int × Int)) (s : DevS) : phi (writeS at_ sz l s).2 ≤ phi s := by
  unfold writeS
  have h1 := putF_phi l (at_ + 64) s
  have h2 := rangeP_phi ((at_ + 64 : Nat) : Int) (needS (lensX l)).1 (putF (at_ + 64) l s).2
  repeat' (split; · first | exact Nat.le_refl _ | exact h1 | exact Nat.le_trans h2 h1)
  exact Nat.le_trans (pubP_phi _ _ _) (Nat.le_trans h2 h1)
theorem live_phi {s : DevS} : Live s ↔ phi s = 0 := by
  unfold phi
  constructor
  · intro h; rw [h.off, h.arms]; rfl
  · intro h
    refine ⟨?_, List.eq_nil_of_length_eq_zero (by omega)⟩
    cases ho : s.off with
    | false => rfl
    | true => rw [ho] at h; simp at h
/-! ### Images, line by line -/
theorem chunk_at {q j : Nat} {I : List Nat} (h : j < 64) : (chunk q I)[j]? = I[q * 64 + j]? := by
  unfold chunk; rw [List.getElem?_take, if_pos h, List.getElem?_drop]
theorem img_ext {n : Nat} {I J : List Nat} (hI : I.length = n * 64) (hJ : J.length = n * 64) (h : ∀ q, q < n → chunk q I = chunk q J) : I = J := by
  apply List.ext_getElem?
  intro i
  rcases Nat.lt_or_ge i (n * 64) with hi | hi
  · have := h (i / 64) (by omega)
    have h2 := congrArg (fun l => l[i % 64]?) this
    simp only [chunk_at (show i % 64 < 64 by omega), show i / 64 * 64 + i % 64 = i by omega] at h2
    exact h2
  · rw [List.getElem?_eq_none (by omega), List.getElem?_eq_none (by omega)]
/-- Every content of every line is that of an image. -/
def Same (I : List Nat) (s : DevS) : Prop := Poss (fun q c => c = chunk q I) s
/-! ### A number is published -/
theorem pub_loss {X : Nat → List Nat → Prop} {p v : Nat} {s : DevS} (hw : WfD s) (hO : s.off = false) (hc : Poss X s) (hcl : ∀ (q : Nat) (l : LineS), q ≠ p / 64 → s.ls[q]? = some l → l.st.length = 1) (hp8 : p % 8 = 0) (hp : p + 8 ≤ s.ls.length * 64) (hv : v < 18446744073709551616) (hroom : Room 1 s)
    (hX1 : X (p / 64) (chunk (p / 64) (spl (imgS s) p (le 8 v)))) :
    ∃ e s2, pubP (p : Nat) v s = (e, s2) ∧ ((e = 0 ∧ s2.off = false ∧ WfD s2 ∧ Cln s2 ∧ s2.ls.length = s.ls.length ∧ imgS s2 = spl (imgS s) p (le 8 v)) ∨ (e = 5 ∧ Lost X s.ls.length s2)) := by
  have hi : p / 64 < s.ls.length := by omega
  have hwL := layS_wf (at_ := p) hw hroom hv
  have himg := img_lay hw hp8 hi hv hroom
  have hlen : (layS p v s).ls.length = s.ls.length := layS_len _ _ _
  have hP := poss_lay hc hi hwL (by rw [himg]; exact hX1)
  have hst : st8 (p : Nat) v s = (doneE (layS p v s), doneS (layS p v s)) := by
    unfold st8; rw [hO, rdy_ok (by omega) (by omega) (by omega), if_neg (by decide), if_neg (by omega), Int.toNat_natCast]
  unfold pubP
  rw [hst]
  rcases done_loss hwL hP with ⟨h1, h2, h3⟩ | ⟨h1, h2⟩
  · simp only []
    rw [h1, if_neg (by decide), Int.toNat_natCast]
    obtain ⟨e, s2, g1, g2⟩ := lastS_loss (X := X) (p := p) (m := 8) (s := doneS (layS p v s)) (doneS_wf hwL) (by rw [h3, layS_off]; exact hO) (fun q l hl σ hσ => by rw [h2] at hl; exact hP q l hl σ hσ) (by decide) (by rw [h2, hlen]; exact hp) (fun q l hq hl => by
      rw [h2, layS_ls hi, List.getElem?_set_ne (by omega)] at hl
      exact hcl q l (by omega) hl)
    refine ⟨e, s2, g1, ?_⟩
    rw [h2, hlen] at g2
    rcases g2 with ⟨a1, a2, a3, a4, a5, a6⟩ | g2
    · exact .inl ⟨a1, a2, a3, a4, a5, by rw [a6]; unfold imgS; rw [h2]; exact himg⟩
    · exact .inr g2
  · simp only []
    rw [h1, if_pos (by decide)]
    exact ⟨5, _, rfl, .inr ⟨rfl, by rw [hlen] at h2; exact h2⟩⟩
/-! ### Records are stored -/
def recsB (I : List Nat) (l : List (Int × Int)) : List Nat := l.flatMap fun x => recS x.1.toNat ((I.drop x.1.toNat).take x.2.toNat)
theorem recsB_cons (I : List Nat) (x : Int × Int) (l : List (Int × Int)) : recsB I (x :: l) = recS x.1.toNat ((I.drop x.1.toNat).take x.2.toNat) ++ recsB I l := rfl
/-- Outside a range the images are alike. -/
def Out (a b : Nat) (I J : List Nat) : Prop := ∀ i, ¬ (a ≤ i ∧ i < b) → I[i]? = J[i]?
theorem Out.refl (a b : Nat) (I : List Nat) : Out a b I I := fun _ _ => rfl
theorem Out.trans {a b : Nat} {I J K : List Nat} (h1 : Out a b I J) (h2 : Out a b J K) : Out a b I K := fun i hi => (h1 i hi).trans (h2 i hi)
theorem out_spl {a b p : Nat} {I c : List Nat} (hp : p + c.length ≤ I.length) (h1 : a ≤ p) (h2 : p + c.length ≤ b) : Out a b (spl I p c) I := fun i hi => by rw [spl_at hp, if_neg (by omega)]
theorem out_sub {a b p m : Nat} {I J : List Nat} (h : Out a b I J) (hd : p + m ≤ a ∨ b ≤ p) : (I.drop p).take m = (J.drop p).take m := by
  apply List.ext_getElem?
  intro i
  rw [List.getElem?_take, List.getElem?_take]
  split
  · rw [List.getElem?_drop, List.getElem?_drop]; exact h _ (by omega)
  · rfl
theorem recsB_len {n at_ sz : Nat} {I : List Nat} (hI : I.length = n) : ∀ {l : List (Int × Int)}, l.all (mayX n at_ sz) = true → (recsB I l).length = needN l
  | [], _ => rfl
  | x :: l, hl => by
    rw [List.all_cons, Bool.and_eq_true] at hl
    obtain ⟨p, m, rfl, y1, y2, y3, y4⟩ := may_nat hl.1
    rw [recsB_cons, List.length_append, recsB_len hI hl.2, needN_cons, recS_len]
    simp only [Int.toNat_natCast]
    rw [show ((I.drop p).take m).length = m by rw [List.length_take, List.length_drop]; omega]
theorem put_loss {X : Nat → List Nat → Prop} {at_ sz : Nat} {I0 : List Nat} : ∀ {l : List (Int × Int)} {q r : Nat} {s : DevS}, WfD s → s.off = false → Poss X s → LogW (s.ls.length * 64) at_ sz → l.all (mayX (s.ls.length * 64) at_ sz) = true → at_ + 64 ≤ q → q + needN l ≤ at_ + sz → Room (r + needN l) s → Out (at_ + 64) (at_ + sz) (imgS s) I0 → I0.length = s.ls.length * 64 →
    (∀ I : List Nat, I.length = s.ls.length * 64 → Out (at_ + 64) (at_ + sz) I I0 → ∀ j, j < s.ls.length → X j (chunk j I)) →
    ∃ e s2, putF q l s = (e, s2) ∧ ((e = 0 ∧ s2.off = false ∧ WfD s2 ∧ Poss X s2 ∧ s2.ls.length = s.ls.length ∧ (∀ j : Nat, (j + 1) * 64 ≤ q ∨ q + needN l ≤ j * 64 → s2.ls[j]? = s.ls[j]?) ∧ Room r s2 ∧ imgS s2 = spl (imgS s) q (recsB I0 l)) ∨ (e = 5 ∧ Lost X s.ls.length s2))
  | [], q, r, s, hw, hO, hP, _, _, _, _, hr, _, _, _ => ⟨0, s, rfl, .inl ⟨rfl, hO, hw, hP, rfl, fun _ _ => rfl, fun l hl => by have := hr l hl; omega, (spl_nil _ _).symm⟩⟩
  | x :: l, q, r, s, hw, hO, hP, hlw, hl, hq1, hq2, hr, hout, hI0, hX => by
    rw [List.all_cons, Bool.and_eq_true] at hl
    obtain ⟨p, m, rfl, y1, y2, y3, y4⟩ := may_nat hl.1
    rw [needN_cons] at hq2 hr
    simp only [Int.toNat_natCast] at hq2 hr
    have htop := hlw.top
    have hil := imgS_len hw
    have hol : (((imgS s).drop p).take m).length = m := by rw [List.length_take, List.length_drop, hil]; omega
    have hrl : (recS p (((imgS s).drop p).take m)).length = 24 + up8 m := by rw [recS_len, hol]
    have hrb : ∀ b ∈ recS p (((imgS s).drop p).take m), b < 256 := recS_b img_sub
    obtain ⟨b, hb⟩ : ∃ b, recS p (((imgS s).drop p).take m) = b := ⟨_, rfl⟩
    rw [hb] at hrl hrb
    have hbo : recS p ((I0.drop p).take m) = b := by rw [← hb, out_sub hout (by omega)]
    have hXs : ∀ k j, 0 < k → k ≤ b.length → ((q + k) % 8 = 0 ∨ k = b.length) → j < s.ls.length → X j (chunk j (spl (imgS s) q (b.take k))) := fun k j k0 k1 _ hj => by
      have hkl : (b.take k).length = k := by rw [List.length_take]; omega
      exact hX _ (by rw [spl_length (by omega), hil]) ((out_spl (by omega) hq1 (by omega)).trans hout) j hj
    obtain ⟨e, s1, g1, g2⟩ := storeF_loss (X := X) b.length (p := q) (r := r + needN l) (s := s) rfl hw hO hrb (fun l hl => by have := hr l hl; omega) (by omega) hP hXs
    have hst : sto (q : Nat) (recS p (((imgS s).drop p).take m)) s = (e, s1) := by
      rw [hb]; unfold sto; rw [hO, rdy_ok (by omega) (by omega) (by omega), if_neg (by decide), Int.toNat_natCast]; exact g1
    rcases g2 with ⟨a1, ⟨a2, a3, a4, a5, a6⟩, a7, a8⟩ | ⟨a1, a2⟩
    · subst a1
      rw [putF_o hst]
      have hout1 : Out (at_ + 64) (at_ + sz) (imgS s1) I0 := by rw [a8]; exact (out_spl (by omega) hq1 (by omega)).trans hout
      obtain ⟨e, s2, k1, k2⟩ := put_loss (X := X) (I0 := I0) (l := l) (q := q + (24 + up8 m)) (r := r) (s := s1) a3 a2 a4 (by rw [a5]; exact hlw) (by rw [a5]; exact hl.2) (by omega) (by omega) a7 hout1 (by rw [a5]; exact hI0) (by rw [a5]; exact hX)
      refine ⟨e, s2, k1, ?_⟩
      rw [a5] at k2
      rcases k2 with ⟨b1, b2, b3, b4, b5, b6, b7, b8⟩ | k2
      · refine .inl ⟨b1, b2, b3, b4, b5, fun j hj => ?_, b7, ?_⟩
        · rw [needN_cons] at hj
          simp only [Int.toNat_natCast] at hj
          rw [b6 j (by omega), a6 j (by omega)]
        · have hrn := recsB_len (I := I0) (n := s.ls.length * 64) (at_ := at_) (sz := sz) (l := l) hI0 hl.2
          rw [b8, a8, recsB_cons]
          simp only [Int.toNat_natCast]
          rw [hbo, show 24 + up8 m = b.length from hrl.symm, spl_spl (by omega)]
      · exact .inr k2
    · subst a1
      exact ⟨5, s1, putF_e hst (by decide), .inr ⟨rfl, a2⟩⟩
end Go.Vl

/- What the row rests on, part 5: a calculus of assertions, walks of functions over it, and plain laws. Conditions: none. -/
import Derived.Deep.QuietTactic
import Derived.BigQuiet
import Derived.WalkKit
import Derived.Test.YtndfopmdkcnkgaaGreatProg
import Derived.OrdersHeld
import Derived.Laws.BytesArg
import Derived.RangeFuncRecord
import Derived.TacticsIn
import Derived.Deep.Slices
import Derived.OpenShut
import Derived.ChangeArms
import Derived.SizedLaws
import Derived.ChangeSame
import Derived.Test.YtndfopmdkcnkgaaGreatRows
import Derived.Sort.QuietThIn
import Derived.Test.YtndfopmdkcnkgaaGreatMg4
set_option linter.unusedVariables false
set_option linter.unusedSimpArgs false
namespace Go.Vl
open Go Go.Proofs
theorem has_rt {F R : SP} {b : Nat} {o : Obj} (k : Has R b o) : Has (F * R) b o := fun g w h => k g w h.right
theorem flL_e {N i q : Nat} {s s2 : DevS} {e : Int} (hi : i < N) (h : fl1 (((q + i) * 64 : Nat) : Int) s = (e, s2)) (he : e ≠ 0) : flL (N - i) (q + i) s = (e, s2) := by
  rw [show N - i = (N - (i + 1)) + 1 by omega]
  show (if _ then _ else _) = _
  rw [h, if_pos he]
theorem flL_o {N i q : Nat} {s s2 : DevS} (hi : i < N) (h : fl1 (((q + i) * 64 : Nat) : Int) s = (0, s2)) : flL (N - i) (q + i) s = flL (N - (i + 1)) (q + (i + 1)) s2 := by
  rw [show N - i = (N - (i + 1)) + 1 by omega]
  show (if _ then _ else _) = _
  rw [h, if_neg (by simp)]; rfl
attribute [local irreducible] crk crL crc Sl pt ro Dev imgS recS readS recsF rdW rdO rkT Parts
namespace Rg
theorem back_c {A R : SP} {C : SP → SP} {d : Nat} {s : DevS} (hc : Ct A (Dev d s) R C := by repeat (first | with_reducible exact ct_here | apply ct_left)) {bl at_ sz : Nat} (hl : Has R bl (cl (lcs11 d at_ sz) 94) := by (repeat (first | assumption | with_reducible exact has_here | with_reducible exact has_pt | apply has_left))) {a : Option Addr} {c m p : Nat} {xs : List Nat} (hr : Rs R a (bys xs) := by repeat (first | assumption | with_reducible exact rs_sl | with_reducible exact rs_pt0 | exact rs_none | apply Rs.left)) (hm : xs.length = m := by first | assumption | rfl) (hmc : m ≤ c := by first | assumption | omega) (hb : ∀ x ∈ xs, x < 256 := by assumption) (h1 : 1 ≤ m := by omega) (hpm : p + m ≤ s.ls.length * 64 := by omega) (hroom : Room m s := by assumption) :
    Fn Tryz.prog 69 #[.pointer (some ⟨bl, 0, none⟩), .agg #[.int .i64 (p : Nat), .slice a m c]] (A) (fun r B => ∃ e s2, backS (p, xs) s = (e, s2) ∧ r = .int .i64 e ∧ B = C (Dev d s2)) := by
  refine fn_enterW (args := [.pointer (some ⟨bl, 0, none⟩), .agg #[.int .i64 (p : Nat), .slice a m c]]) Tryz.func69 rfl Tryz.ntmps69 (by simp) ?_; refine tc_have (fun _ _ h => ct_wf2 hc h) fun hw => ?_
  have htop := hw.top
  have hpos := hw.pos
  obtain ⟨rfl, hC⟩ := hc
  have hAC : ∀ g w, sat g w (R * Dev d s) → sat g w (C (Dev d s)) := fun g w h => by rw [hC]; exact h
  refine tc_seq ?_; refine tc_reg ?_; refine tl_x rfl (o_box rfl rfl) ?_; rintro _ _ ⟨b2, rfl, rfl⟩; refine tl_x rfl (o_box rfl rfl) ?_; rintro _ _ ⟨b3, rfl, rfl⟩; refine tl_x rfl (o_alloc z29 rfl) ?_; rintro _ _ ⟨b4, rfl, rfl⟩; refine tl_nil ?_; refine q_then_n ?_; refine tc_seq ?_; refine tc_seq ?_; refine tc_cut (fun ρ BB => ∃ (e16 : Int) (s16 : DevS), (sto (p : Nat) xs s = (e16, s16)) ∧ ρ 5 = .int .i64 e16 ∧ ρ 37 = undef ∧ ρ 2 = .pointer (some ⟨b2, 0, none⟩) ∧ ρ 3 = .pointer (some ⟨b3, 0, none⟩) ∧ ρ 4 = .pointer (some ⟨b4, 0, none⟩) ∧ BB = R * Dev d s16 * pt b2 (cl [.pointer (some ⟨bl, 0, none⟩)] 37) * pt b3 (cl [.int .i64 (p : Nat), .slice a m c] 92) * pt b4 (cl [.int .i64 0] 29)) ?_ ?_
  · skip
    refine tc_regh (S := R) mo (by repeat (first | with_reducible exact dr_refl | apply dr_keep | apply dr_drop)) ?_
    show TH _ _ _ _ _ 10 #[ff,ff,ff,ff,ff,ff,ff,ff,ff,ff] _ _
    refine th_take (i := 4) (listed' := #[ff,ff,ff,ff,tt,ff,ff,ff,ff,ff]) rfl kqz kqz kqz rfl rfl (o_fieldAddr (o := 0) Tryz.underlying92 rfl rfl sz3 rfl) ?_; refine th_take (i := 6) (listed' := #[ff,ff,ff,ff,tt,ff,tt,ff,ff,ff]) rfl kqz kqz kqz rfl rfl (o_fieldAddr (o := 1) Tryz.underlying92 rfl rfl sz22 rfl) ?_; refine th_three (i := 0) (j := 5) (k := 7) kqz ?_ ?_ ?_
    · skip
      refine oh_v (i := 0) (listed' := #[tt,ff,ff,ff,tt,ff,tt,ff,ff,ff]) rfl rfl rfl (by first | exact o_load p37 rfl (by repeat (first | with_reducible exact has_here | with_reducible exact has_pt | apply has_left)) rfl | exact o_loadC p37 rfl (by assumption)) ?_; refine th_take (i := 1) (listed' := #[tt,tt,ff,ff,tt,ff,tt,ff,ff,ff]) rfl kqz kqz kqz rfl rfl (o_nilCheck rfl) ?_; refine th_take (i := 2) (listed' := #[tt,tt,tt,ff,tt,ff,tt,ff,ff,ff]) rfl kqz kqz kqz rfl rfl (o_fieldAddr (o := 0) Tryz.underlying94 rfl rfl sz28 rfl) ?_; refine th_three (i := 3) (j := 5) (k := 7) kqz ?_ ?_ ?_
      · skip
        refine oh_v (i := 3) (listed' := #[tt,tt,tt,tt,tt,ff,tt,ff,ff,ff]) rfl rfl rfl (o_load p28 rfl (by repeat (first | assumption | apply has_left)) rfl) ?_; refine th_two (i := 5) (j := 7) kqz ?_ ?_
        · skip
          refine oh_v (i := 5) (listed' := #[tt,tt,tt,tt,tt,tt,tt,ff,ff,ff]) rfl rfl rfl (by first | exact o_load p3 rfl (by repeat (first | with_reducible exact has_here | with_reducible exact has_pt | apply has_left)) rfl | exact o_loadC p3 rfl (by assumption)) ?_; refine th_one (i := 7) kqz ?_; refine oh_v (i := 7) (listed' := #[tt,tt,tt,tt,tt,tt,tt,tt,ff,ff]) rfl rfl rfl (by first | exact o_load p22 rfl (by repeat (first | with_reducible exact has_here | with_reducible exact has_pt | apply has_left)) rfl | exact o_loadC p22 rfl (by assumption)) ?_; refine th_one (i := 8) kqz ?_; refine oh_c (i := 8) (listed' := #[tt,tt,tt,tt,tt,tt,tt,tt,tt,ff]) rfl rfl rfl (o_call bd24 rfl (Store_c (s := s) (p := (p : Nat)) (xs := xs) (hroom := fun _ => hroom))) ?_; rintro _ _ ⟨e16, s16, hs16, rfl, rfl⟩; refine ⟨by repeat (first | with_reducible exact dr_refl | apply dr_keep | apply dr_drop), ?_⟩; refine th_take (i := 9) (listed' := #[tt,tt,tt,tt,tt,tt,tt,tt,tt,tt]) rfl kqz kqz kqz rfl rfl (o_assign (by conv => lhs; whnf)) ?_; refine th_done kqz ?_; exact ⟨e16, s16, hs16, rfl, rfl, rfl, rfl, rfl, rfl⟩
        · skip
          refine oh_v (i := 7) (listed' := #[tt,tt,tt,tt,tt,ff,tt,tt,ff,ff]) rfl rfl rfl (by first | exact o_load p22 rfl (by repeat (first | with_reducible exact has_here | with_reducible exact has_pt | apply has_left)) rfl | exact o_loadC p22 rfl (by assumption)) ?_; refine th_one (i := 5) kqz ?_; refine oh_v (i := 5) (listed' := #[tt,tt,tt,tt,tt,tt,tt,tt,ff,ff]) rfl rfl rfl (by first | exact o_load p3 rfl (by repeat (first | with_reducible exact has_here | with_reducible exact has_pt | apply has_left)) rfl | exact o_loadC p3 rfl (by assumption)) ?_; refine th_one (i := 8) kqz ?_; refine oh_c (i := 8) (listed' := #[tt,tt,tt,tt,tt,tt,tt,tt,tt,ff]) rfl rfl rfl (o_call bd24 rfl (Store_c (s := s) (p := (p : Nat)) (xs := xs) (hroom := fun _ => hroom))) ?_; rintro _ _ ⟨e16, s16, hs16, rfl, rfl⟩; refine ⟨by repeat (first | with_reducible exact dr_refl | apply dr_keep | apply dr_drop), ?_⟩; refine th_take (i := 9) (listed' := #[tt,tt,tt,tt,tt,tt,tt,tt,tt,tt]) rfl kqz kqz kqz rfl rfl (o_assign (by conv => lhs; whnf)) ?_; refine th_done kqz ?_; exact ⟨e16, s16, hs16, rfl, rfl, rfl, rfl, rfl, rfl⟩
      · skip
        refine oh_v (i := 5) (listed' := #[tt,tt,tt,ff,tt,tt,tt,ff,ff,ff]) rfl rfl rfl (by first | exact o_load p3 rfl (by repeat (first | with_reducible exact has_here | with_reducible exact has_pt | apply has_left)) rfl | exact o_loadC p3 rfl (by assumption)) ?_; refine th_two (i := 3) (j := 7) kqz ?_ ?_
        · skip
          refine oh_v (i := 3) (listed' := #[tt,tt,tt,tt,tt,tt,tt,ff,ff,ff]) rfl rfl rfl (o_load p28 rfl (by repeat (first | assumption | apply has_left)) rfl) ?_; refine th_one (i := 7) kqz ?_; refine oh_v (i := 7) (listed' := #[tt,tt,tt,tt,tt,tt,tt,tt,ff,ff]) rfl rfl rfl (by first | exact o_load p22 rfl (by repeat (first | with_reducible exact has_here | with_reducible exact has_pt | apply has_left)) rfl | exact o_loadC p22 rfl (by assumption)) ?_; refine th_one (i := 8) kqz ?_; refine oh_c (i := 8) (listed' := #[tt,tt,tt,tt,tt,tt,tt,tt,tt,ff]) rfl rfl rfl (o_call bd24 rfl (Store_c (s := s) (p := (p : Nat)) (xs := xs) (hroom := fun _ => hroom))) ?_; rintro _ _ ⟨e16, s16, hs16, rfl, rfl⟩; refine ⟨by repeat (first | with_reducible exact dr_refl | apply dr_keep | apply dr_drop), ?_⟩; refine th_take (i := 9) (listed' := #[tt,tt,tt,tt,tt,tt,tt,tt,tt,tt]) rfl kqz kqz kqz rfl rfl (o_assign (by conv => lhs; whnf)) ?_; refine th_done kqz ?_; exact ⟨e16, s16, hs16, rfl, rfl, rfl, rfl, rfl, rfl⟩
        · skip
          refine oh_v (i := 7) (listed' := #[tt,tt,tt,ff,tt,tt,tt,tt,ff,ff]) rfl rfl rfl (by first | exact o_load p22 rfl (by repeat (first | with_reducible exact has_here | with_reducible exact has_pt | apply has_left)) rfl | exact o_loadC p22 rfl (by assumption)) ?_; refine th_one (i := 3) kqz ?_; refine oh_v (i := 3) (listed' := #[tt,tt,tt,tt,tt,tt,tt,tt,ff,ff]) rfl rfl rfl (o_load p28 rfl (by repeat (first | assumption | apply has_left)) rfl) ?_; refine th_one (i := 8) kqz ?_; refine oh_c (i := 8) (listed' := #[tt,tt,tt,tt,tt,tt,tt,tt,tt,ff]) rfl rfl rfl (o_call bd24 rfl (Store_c (s := s) (p := (p : Nat)) (xs := xs) (hroom := fun _ => hroom))) ?_; rintro _ _ ⟨e16, s16, hs16, rfl, rfl⟩; refine ⟨by repeat (first | with_reducible exact dr_refl | apply dr_keep | apply dr_drop), ?_⟩; refine th_take (i := 9) (listed' := #[tt,tt,tt,tt,tt,tt,tt,tt,tt,tt]) rfl kqz kqz kqz rfl rfl (o_assign (by conv => lhs; whnf)) ?_; refine th_done kqz ?_; exact ⟨e16, s16, hs16, rfl, rfl, rfl, rfl, rfl, rfl⟩
      · skip
        refine oh_v (i := 7) (listed' := #[tt,tt,tt,ff,tt,ff,tt,tt,ff,ff]) rfl rfl rfl (by first | exact o_load p22 rfl (by repeat (first | with_reducible exact has_here | with_reducible exact has_pt | apply has_left)) rfl | exact o_loadC p22 rfl (by assumption)) ?_; refine th_two (i := 3) (j := 5) kqz ?_ ?_
        · skip
          refine oh_v (i := 3) (listed' := #[tt,tt,tt,tt,tt,ff,tt,tt,ff,ff]) rfl rfl rfl (o_load p28 rfl (by repeat (first | assumption | apply has_left)) rfl) ?_; refine th_one (i := 5) kqz ?_; refine oh_v (i := 5) (listed' := #[tt,tt,tt,tt,tt,tt,tt,tt,ff,ff]) rfl rfl rfl (by first | exact o_load p3 rfl (by repeat (first | with_reducible exact has_here | with_reducible exact has_pt | apply has_left)) rfl | exact o_loadC p3 rfl (by assumption)) ?_; refine th_one (i := 8) kqz ?_; refine oh_c (i := 8) (listed' := #[tt,tt,tt,tt,tt,tt,tt,tt,tt,ff]) rfl rfl rfl (o_call bd24 rfl (Store_c (s := s) (p := (p : Nat)) (xs := xs) (hroom := fun _ => hroom))) ?_; rintro _ _ ⟨e16, s16, hs16, rfl, rfl⟩; refine ⟨by repeat (first | with_reducible exact dr_refl | apply dr_keep | apply dr_drop), ?_⟩; refine th_take (i := 9) (listed' := #[tt,tt,tt,tt,tt,tt,tt,tt,tt,tt]) rfl kqz kqz kqz rfl rfl (o_assign (by conv => lhs; whnf)) ?_; refine th_done kqz ?_; exact ⟨e16, s16, hs16, rfl, rfl, rfl, rfl, rfl, rfl⟩
        · skip
          refine oh_v (i := 5) (listed' := #[tt,tt,tt,ff,tt,tt,tt,tt,ff,ff]) rfl rfl rfl (by first | exact o_load p3 rfl (by repeat (first | with_reducible exact has_here | with_reducible exact has_pt | apply has_left)) rfl | exact o_loadC p3 rfl (by assumption)) ?_; refine th_one (i := 3) kqz ?_; refine oh_v (i := 3) (listed' := #[tt,tt,tt,tt,tt,tt,tt,tt,ff,ff]) rfl rfl rfl (o_load p28 rfl (by repeat (first | assumption | apply has_left)) rfl) ?_; refine th_one (i := 8) kqz ?_; refine oh_c (i := 8) (listed' := #[tt,tt,tt,tt,tt,tt,tt,tt,tt,ff]) rfl rfl rfl (o_call bd24 rfl (Store_c (s := s) (p := (p : Nat)) (xs := xs) (hroom := fun _ => hroom))) ?_; rintro _ _ ⟨e16, s16, hs16, rfl, rfl⟩; refine ⟨by repeat (first | with_reducible exact dr_refl | apply dr_keep | apply dr_drop), ?_⟩; refine th_take (i := 9) (listed' := #[tt,tt,tt,tt,tt,tt,tt,tt,tt,tt]) rfl kqz kqz kqz rfl rfl (o_assign (by conv => lhs; whnf)) ?_; refine th_done kqz ?_; exact ⟨e16, s16, hs16, rfl, rfl, rfl, rfl, rfl, rfl⟩
    · skip
      refine oh_v (i := 5) (listed' := #[ff,ff,ff,ff,tt,tt,tt,ff,ff,ff]) rfl rfl rfl (by first | exact o_load p3 rfl (by repeat (first | with_reducible exact has_here | with_reducible exact has_pt | apply has_left)) rfl | exact o_loadC p3 rfl (by assumption)) ?_; refine th_two (i := 0) (j := 7) kqz ?_ ?_
      · skip
        refine oh_v (i := 0) (listed' := #[tt,ff,ff,ff,tt,tt,tt,ff,ff,ff]) rfl rfl rfl (by first | exact o_load p37 rfl (by repeat (first | with_reducible exact has_here | with_reducible exact has_pt | apply has_left)) rfl | exact o_loadC p37 rfl (by assumption)) ?_; refine th_take (i := 1) (listed' := #[tt,tt,ff,ff,tt,tt,tt,ff,ff,ff]) rfl kqz kqz kqz rfl rfl (o_nilCheck rfl) ?_; refine th_take (i := 2) (listed' := #[tt,tt,tt,ff,tt,tt,tt,ff,ff,ff]) rfl kqz kqz kqz rfl rfl (o_fieldAddr (o := 0) Tryz.underlying94 rfl rfl sz28 rfl) ?_; refine th_two (i := 3) (j := 7) kqz ?_ ?_
        · skip
          refine oh_v (i := 3) (listed' := #[tt,tt,tt,tt,tt,tt,tt,ff,ff,ff]) rfl rfl rfl (o_load p28 rfl (by repeat (first | assumption | apply has_left)) rfl) ?_; refine th_one (i := 7) kqz ?_; refine oh_v (i := 7) (listed' := #[tt,tt,tt,tt,tt,tt,tt,tt,ff,ff]) rfl rfl rfl (by first | exact o_load p22 rfl (by repeat (first | with_reducible exact has_here | with_reducible exact has_pt | apply has_left)) rfl | exact o_loadC p22 rfl (by assumption)) ?_; refine th_one (i := 8) kqz ?_; refine oh_c (i := 8) (listed' := #[tt,tt,tt,tt,tt,tt,tt,tt,tt,ff]) rfl rfl rfl (o_call bd24 rfl (Store_c (s := s) (p := (p : Nat)) (xs := xs) (hroom := fun _ => hroom))) ?_; rintro _ _ ⟨e16, s16, hs16, rfl, rfl⟩; refine ⟨by repeat (first | with_reducible exact dr_refl | apply dr_keep | apply dr_drop), ?_⟩; refine th_take (i := 9) (listed' := #[tt,tt,tt,tt,tt,tt,tt,tt,tt,tt]) rfl kqz kqz kqz rfl rfl (o_assign (by conv => lhs; whnf)) ?_; refine th_done kqz ?_; exact ⟨e16, s16, hs16, rfl, rfl, rfl, rfl, rfl, rfl⟩
        · skip
          refine oh_v (i := 7) (listed' := #[tt,tt,tt,ff,tt,tt,tt,tt,ff,ff]) rfl rfl rfl (by first | exact o_load p22 rfl (by repeat (first | with_reducible exact has_here | with_reducible exact has_pt | apply has_left)) rfl | exact o_loadC p22 rfl (by assumption)) ?_; refine th_one (i := 3) kqz ?_; refine oh_v (i := 3) (listed' := #[tt,tt,tt,tt,tt,tt,tt,tt,ff,ff]) rfl rfl rfl (o_load p28 rfl (by repeat (first | assumption | apply has_left)) rfl) ?_; refine th_one (i := 8) kqz ?_; refine oh_c (i := 8) (listed' := #[tt,tt,tt,tt,tt,tt,tt,tt,tt,ff]) rfl rfl rfl (o_call bd24 rfl (Store_c (s := s) (p := (p : Nat)) (xs := xs) (hroom := fun _ => hroom))) ?_; rintro _ _ ⟨e16, s16, hs16, rfl, rfl⟩; refine ⟨by repeat (first | with_reducible exact dr_refl | apply dr_keep | apply dr_drop), ?_⟩; refine th_take (i := 9) (listed' := #[tt,tt,tt,tt,tt,tt,tt,tt,tt,tt]) rfl kqz kqz kqz rfl rfl (o_assign (by conv => lhs; whnf)) ?_; refine th_done kqz ?_; exact ⟨e16, s16, hs16, rfl, rfl, rfl, rfl, rfl, rfl⟩
      · skip
        refine oh_v (i := 7) (listed' := #[ff,ff,ff,ff,tt,tt,tt,tt,ff,ff]) rfl rfl rfl (by first | exact o_load p22 rfl (by repeat (first | with_reducible exact has_here | with_reducible exact has_pt | apply has_left)) rfl | exact o_loadC p22 rfl (by assumption)) ?_; refine th_one (i := 0) kqz ?_; refine oh_v (i := 0) (listed' := #[tt,ff,ff,ff,tt,tt,tt,tt,ff,ff]) rfl rfl rfl (by first | exact o_load p37 rfl (by repeat (first | with_reducible exact has_here | with_reducible exact has_pt | apply has_left)) rfl | exact o_loadC p37 rfl (by assumption)) ?_; refine th_take (i := 1) (listed' := #[tt,tt,ff,ff,tt,tt,tt,tt,ff,ff]) rfl kqz kqz kqz rfl rfl (o_nilCheck rfl) ?_; refine th_take (i := 2) (listed' := #[tt,tt,tt,ff,tt,tt,tt,tt,ff,ff]) rfl kqz kqz kqz rfl rfl (o_fieldAddr (o := 0) Tryz.underlying94 rfl rfl sz28 rfl) ?_; refine th_one (i := 3) kqz ?_; refine oh_v (i := 3) (listed' := #[tt,tt,tt,tt,tt,tt,tt,tt,ff,ff]) rfl rfl rfl (o_load p28 rfl (by repeat (first | assumption | apply has_left)) rfl) ?_; refine th_one (i := 8) kqz ?_; refine oh_c (i := 8) (listed' := #[tt,tt,tt,tt,tt,tt,tt,tt,tt,ff]) rfl rfl rfl (o_call bd24 rfl (Store_c (s := s) (p := (p : Nat)) (xs := xs) (hroom := fun _ => hroom))) ?_; rintro _ _ ⟨e16, s16, hs16, rfl, rfl⟩; refine ⟨by repeat (first | with_reducible exact dr_refl | apply dr_keep | apply dr_drop), ?_⟩
        refine th_take (i := 9) (listed' := #[tt,tt,tt,tt,tt,tt,tt,tt,tt,tt]) rfl kqz kqz kqz rfl rfl (o_assign (by conv => lhs; whnf)) ?_; refine th_done kqz ?_; exact ⟨e16, s16, hs16, rfl, rfl, rfl, rfl, rfl, rfl⟩
    · skip
      refine oh_v (i := 7) (listed' := #[ff,ff,ff,ff,tt,ff,tt,tt,ff,ff]) rfl rfl rfl (by first | exact o_load p22 rfl (by repeat (first | with_reducible exact has_here | with_reducible exact has_pt | apply has_left)) rfl | exact o_loadC p22 rfl (by assumption)) ?_; refine th_two (i := 0) (j := 5) kqz ?_ ?_
      · skip
        refine oh_v (i := 0) (listed' := #[tt,ff,ff,ff,tt,ff,tt,tt,ff,ff]) rfl rfl rfl (by first | exact o_load p37 rfl (by repeat (first | with_reducible exact has_here | with_reducible exact has_pt | apply has_left)) rfl | exact o_loadC p37 rfl (by assumption)) ?_; refine th_take (i := 1) (listed' := #[tt,tt,ff,ff,tt,ff,tt,tt,ff,ff]) rfl kqz kqz kqz rfl rfl (o_nilCheck rfl) ?_; refine th_take (i := 2) (listed' := #[tt,tt,tt,ff,tt,ff,tt,tt,ff,ff]) rfl kqz kqz kqz rfl rfl (o_fieldAddr (o := 0) Tryz.underlying94 rfl rfl sz28 rfl) ?_; refine th_two (i := 3) (j := 5) kqz ?_ ?_
        · skip
          refine oh_v (i := 3) (listed' := #[tt,tt,tt,tt,tt,ff,tt,tt,ff,ff]) rfl rfl rfl (o_load p28 rfl (by repeat (first | assumption | apply has_left)) rfl) ?_; refine th_one (i := 5) kqz ?_; refine oh_v (i := 5) (listed' := #[tt,tt,tt,tt,tt,tt,tt,tt,ff,ff]) rfl rfl rfl (by first | exact o_load p3 rfl (by repeat (first | with_reducible exact has_here | with_reducible exact has_pt | apply has_left)) rfl | exact o_loadC p3 rfl (by assumption)) ?_; refine th_one (i := 8) kqz ?_; refine oh_c (i := 8) (listed' := #[tt,tt,tt,tt,tt,tt,tt,tt,tt,ff]) rfl rfl rfl (o_call bd24 rfl (Store_c (s := s) (p := (p : Nat)) (xs := xs) (hroom := fun _ => hroom))) ?_; rintro _ _ ⟨e16, s16, hs16, rfl, rfl⟩; refine ⟨by repeat (first | with_reducible exact dr_refl | apply dr_keep | apply dr_drop), ?_⟩; refine th_take (i := 9) (listed' := #[tt,tt,tt,tt,tt,tt,tt,tt,tt,tt]) rfl kqz kqz kqz rfl rfl (o_assign (by conv => lhs; whnf)) ?_; refine th_done kqz ?_; exact ⟨e16, s16, hs16, rfl, rfl, rfl, rfl, rfl, rfl⟩
        · skip
          refine oh_v (i := 5) (listed' := #[tt,tt,tt,ff,tt,tt,tt,tt,ff,ff]) rfl rfl rfl (by first | exact o_load p3 rfl (by repeat (first | with_reducible exact has_here | with_reducible exact has_pt | apply has_left)) rfl | exact o_loadC p3 rfl (by assumption)) ?_; refine th_one (i := 3) kqz ?_; refine oh_v (i := 3) (listed' := #[tt,tt,tt,tt,tt,tt,tt,tt,ff,ff]) rfl rfl rfl (o_load p28 rfl (by repeat (first | assumption | apply has_left)) rfl) ?_; refine th_one (i := 8) kqz ?_; refine oh_c (i := 8) (listed' := #[tt,tt,tt,tt,tt,tt,tt,tt,tt,ff]) rfl rfl rfl (o_call bd24 rfl (Store_c (s := s) (p := (p : Nat)) (xs := xs) (hroom := fun _ => hroom))) ?_; rintro _ _ ⟨e16, s16, hs16, rfl, rfl⟩; refine ⟨by repeat (first | with_reducible exact dr_refl | apply dr_keep | apply dr_drop), ?_⟩; refine th_take (i := 9) (listed' := #[tt,tt,tt,tt,tt,tt,tt,tt,tt,tt]) rfl kqz kqz kqz rfl rfl (o_assign (by conv => lhs; whnf)) ?_; refine th_done kqz ?_; exact ⟨e16, s16, hs16, rfl, rfl, rfl, rfl, rfl, rfl⟩
      · skip
        refine oh_v (i := 5) (listed' := #[ff,ff,ff,ff,tt,tt,tt,tt,ff,ff]) rfl rfl rfl (by first | exact o_load p3 rfl (by repeat (first | with_reducible exact has_here | with_reducible exact has_pt | apply has_left)) rfl | exact o_loadC p3 rfl (by assumption)) ?_; refine th_one (i := 0) kqz ?_; refine oh_v (i := 0) (listed' := #[tt,ff,ff,ff,tt,tt,tt,tt,ff,ff]) rfl rfl rfl (by first | exact o_load p37 rfl (by repeat (first | with_reducible exact has_here | with_reducible exact has_pt | apply has_left)) rfl | exact o_loadC p37 rfl (by assumption)) ?_; refine th_take (i := 1) (listed' := #[tt,tt,ff,ff,tt,tt,tt,tt,ff,ff]) rfl kqz kqz kqz rfl rfl (o_nilCheck rfl) ?_; refine th_take (i := 2) (listed' := #[tt,tt,tt,ff,tt,tt,tt,tt,ff,ff]) rfl kqz kqz kqz rfl rfl (o_fieldAddr (o := 0) Tryz.underlying94 rfl rfl sz28 rfl) ?_; refine th_one (i := 3) kqz ?_; refine oh_v (i := 3) (listed' := #[tt,tt,tt,tt,tt,tt,tt,tt,ff,ff]) rfl rfl rfl (o_load p28 rfl (by repeat (first | assumption | apply has_left)) rfl) ?_; refine th_one (i := 8) kqz ?_; refine oh_c (i := 8) (listed' := #[tt,tt,tt,tt,tt,tt,tt,tt,tt,ff]) rfl rfl rfl (o_call bd24 rfl (Store_c (s := s) (p := (p : Nat)) (xs := xs) (hroom := fun _ => hroom))) ?_; rintro _ _ ⟨e16, s16, hs16, rfl, rfl⟩; refine ⟨by repeat (first | with_reducible exact dr_refl | apply dr_keep | apply dr_drop), ?_⟩
        refine th_take (i := 9) (listed' := #[tt,tt,tt,tt,tt,tt,tt,tt,tt,tt]) rfl kqz kqz kqz rfl rfl (o_assign (by conv => lhs; whnf)) ?_; refine th_done kqz ?_; exact ⟨e16, s16, hs16, rfl, rfl, rfl, rfl, rfl, rfl⟩
  · intro ρ B hI
    obtain ⟨e16, s16, hst0, hE5, hE37, hE2, hE3, hE4, rfl⟩ := hI
    refine q_then_n ?_; refine tc_env (d := 5) hE5 ?_; refine tc_env (d := 37) hE37 ?_; refine tc_env (d := 2) hE2 ?_; refine tc_env (d := 3) hE3 ?_; refine tc_env (d := 4) hE4 ?_
    clear hE5 hE37 hE2 hE3 hE4
    refine tc_seq ?_
    have hs16 := hst0
    refine tc_reg ?_; refine tlm ?_; refine tl_v rfl (o_nei rfl rfl) ?_; refine tl_nil ?_; refine q_then_n ?_; refine tc_cond rfl (fun h => ?_) (fun h => ?_)
    · have he0 : e16 ≠ 0 := by simpa using h
      refine tc_seq ?_; refine tc_reg ?_; refine tlm ?_; refine tl_u rfl (o_stU rfl (by repeat (first | with_reducible exact upd_here | with_reducible exact upd_pt | apply upd_left)) sz29 rfl rfl (by first | decide | simp | omega) rfl) ?_; refine tl_nil ?_; refine q_then_n ?_; refine tc_ret ?_; refine q_then_r ?_; exact ⟨[], _, rfl, fun _ _ h => mk0 h, .int .i64 e16, C (Dev d s16), resA1 rfl (rv_cell1 p29 rfl (by repeat (first | with_reducible exact has_here | with_reducible exact has_pt | apply has_left)) rfl), fun _ _ h => by rw [hC]; exact (Dr.sat (A' := R * Dev d s16) (by repeat (first | with_reducible exact dr_refl | apply dr_keep | apply dr_drop))) _ _ h, e16, s16, by unfold backS; simp only []; rw [hs16, if_pos he0], rfl, rfl⟩
    · obtain rfl : e16 = 0 := by simpa using h
      have hsl := sto_len (p : Nat) xs s
      rw [hs16] at hsl
      simp only at hsl
      refine tc_skip ?_; refine q_then_n ?_; refine tc_seq ?_; refine tc_seq ?_; refine tc_reg ?_; refine tl_v rfl (o_fieldAddr (o := 0) Tryz.underlying92 rfl rfl sz3 rfl) ?_; refine tl_v rfl (by first | exact o_load p3 rfl (by repeat (first | with_reducible exact has_here | with_reducible exact has_pt | apply has_left)) rfl | exact o_loadC p3 rfl (by assumption)) ?_; refine tl_v rfl (o_fieldAddr (o := 1) Tryz.underlying92 rfl rfl sz22 rfl) ?_; refine tl_v rfl (by first | exact o_load p22 rfl (by repeat (first | with_reducible exact has_here | with_reducible exact has_pt | apply has_left)) rfl | exact o_loadC p22 rfl (by assumption)) ?_; refine tl_v rfl (o_len Tryz.underlying22 rfl) ?_; refine tl_c rfl (o_call bd99 rfl (Lines_c)) ?_; rintro _ _ ⟨w1, w2, rfl, rfl⟩; refine tl_nil ?_; refine q_then_n ?_; refine tc_block ?_; refine tc_rangeI (K := (pt w1 (cl [.int .i64 (p : Int)] 3) * pt w2 (cl [.int .i64 (m : Int)] 3))) (N := ((p + m - 1) / 64 - p / 64 + 1)) (A0 := R * Dev d s16 * pt b2 (cl [.pointer (some ⟨bl, 0, none⟩)] 37) * pt b3 (cl [.int .i64 (p : Nat), .slice a m c] 92) * pt b4 (cl [.int .i64 0] 29)) (fun i S => ∃ (s1 : DevS), (flL (((p + m - 1) / 64 - p / 64 + 1) - i) (p / 64 + i) s1 = flL ((p + m - 1) / 64 - p / 64 + 1) (p / 64) s16) ∧ (s1.ls.length = s.ls.length) ∧ S = R * Dev d s1 * pt b2 (cl [.pointer (some ⟨bl, 0, none⟩)] 37) * pt b3 (cl [.int .i64 (p : Nat), .slice a m c] 92) * pt b4 (cl [.int .i64 0] 29)) (fun j S => ∃ (e : Int) (s1 : DevS), j = .ret ∧ (flL ((p + m - 1) / 64 - p / 64 + 1) (p / 64) s16 = (e, s1)) ∧ S = R * Dev d s1 * pt b2 (cl [.pointer (some ⟨bl, 0, none⟩)] 37) * pt b3 (cl [.int .i64 (p : Nat), .slice a m c] 92) * pt b4 (cl [.int .i64 e] 29)) rfl bd108 (Lines_it (N := ((p + m - 1) / 64 - p / 64 + 1)) h1 oqz rfl) (fun _ => rfl) rfl (Dr.sat (by repeat (first | with_reducible exact dr_refl | apply dr_keep | apply dr_drop))) (⟨s16, rfl, hsl, rfl⟩) ?_ ?_ ?_
      · intro l F i S hi hI
        obtain ⟨s1, hi0, hi1, rfl⟩ := hI
        refine tc_eq (by simp only [← star_assoc]; rfl) ?_; refine tc_env (d := 26) (v := .int .i64 ((p / 64 + i : Nat) : Int)) (rfl) ?_; refine tc_reg ?_; refine tla ?_; refine tl_nil ?_; refine ⟨R * Dev d s1 * pt b2 (cl [.pointer (some ⟨bl, 0, none⟩)] 37) * pt b3 (cl [.int .i64 (p : Nat), .slice a m c] 92) * pt b4 (cl [.int .i64 0] 29), fun g w h => by simp only [← star_assoc]; exact Dr.sat (by repeat (first | with_reducible exact dr_refl | apply dr_keep | apply dr_drop)) g w h, fun F => ?_⟩; refine tc_eq (by simp only [← star_assoc]; rfl) ?_; refine tc_block ?_; refine tc_seq ?_; refine tc_reg ?_; refine tl_v rfl (by first | exact o_load p37 rfl (by repeat (first | with_reducible exact has_here | with_reducible exact has_pt | apply has_left)) rfl | exact o_loadC p37 rfl (by assumption)) ?_; refine tl_v rfl (o_nilCheck rfl) ?_; refine tl_v rfl (o_fieldAddr (o := 0) Tryz.underlying94 rfl rfl sz28 rfl) ?_; refine tl_v rfl (o_load p28 rfl (by repeat (first | assumption | exact has_rt (by assumption) | apply has_left)) rfl) ?_; refine tlm ?_; refine tl_v rfl (by first | exact o_mulI rfl rfl oqz | exact o_mul rfl rfl) ?_; refine tl_env (d := 32) (v := .int .i64 (((p / 64 + i) * 64 : Nat) : Int)) (rfl) ?_; refine tl_c rfl (o_call bd38 rfl (Flush_c (s := s1) (p := (((p / 64 + i) * 64 : Nat) : Int)))) ?_; rintro _ _ ⟨e33, s33, hs33, rfl, rfl⟩; refine tla ?_; refine tl_nil ?_
        refine q_then_n ?_; refine tc_seq ?_; refine tc_reg ?_; refine tlm ?_; refine tl_v rfl (o_nei rfl rfl) ?_; refine tl_nil ?_; refine q_then_n ?_; refine tc_cond rfl (fun h => ?_) (fun h => ?_)
        · have h : e33 ≠ 0 := by simpa using h
          refine tc_seq ?_; refine tc_reg ?_; refine tlm ?_; refine tl_u rfl (o_stU rfl (by repeat (first | with_reducible exact upd_here | with_reducible exact upd_pt | apply upd_left)) sz29 rfl rfl (by first | decide | simp | omega) rfl) ?_; refine tl_nil ?_; refine q_then_n ?_; refine tc_ret ?_; refine q_block_r ?_; exact ⟨R * Dev d (s33) * pt b2 (cl [.pointer (some ⟨bl, 0, none⟩)] 37) * pt b3 (cl [.int .i64 (p : Nat), .slice a m c] 92) * pt b4 (cl [.int .i64 (e33)] 29), fun g w h => by simp only [← star_assoc]; exact Dr.sat (by repeat (first | with_reducible exact dr_refl | apply dr_keep | apply dr_drop)) g w h, e33, s33, rfl, by rw [← hi0]; exact flL_e hi hs33 h, rfl⟩
        · obtain rfl : e33 = 0 := by simpa using h
          refine tc_skip ?_; refine q_block_n ?_; exact ⟨R * Dev d (s33) * pt b2 (cl [.pointer (some ⟨bl, 0, none⟩)] 37) * pt b3 (cl [.int .i64 (p : Nat), .slice a m c] 92) * pt b4 (cl [.int .i64 0] 29), fun g w h => by simp only [← star_assoc]; exact Dr.sat (by repeat (first | with_reducible exact dr_refl | apply dr_keep | apply dr_drop)) g w h, s33, by rw [← hi0]; exact (flL_o hi hs33).symm, by have := fl1_len (((p / 64 + i) * 64 : Nat) : Int) s1; rw [hs33] at this; exact this.trans hi1, rfl⟩
      · intro r S hI
        obtain ⟨s1, hi0, hi1, rfl⟩ := hI
        refine q_block_n (q_then_n ?_); refine tc_seq ?_; refine tc_reg ?_; refine tl_u rfl (o_stU rfl (by repeat (first | with_reducible exact upd_here | with_reducible exact upd_pt | apply upd_left)) sz29 rfl rfl (by first | decide | simp | omega) rfl) ?_; refine tl_nil ?_; refine q_then_n ?_; refine tc_ret ?_; exact ⟨[r], _, rfl, fun _ _ h => mk1 h, .int .i64 0, C (Dev d s1), resA1 rfl (rv_cell1 p29 rfl (by repeat (first | with_reducible exact has_here | with_reducible exact has_pt | apply has_left)) rfl), fun _ _ h => by rw [hC]; exact (Dr.sat (A' := R * Dev d s1) (by repeat (first | with_reducible exact dr_refl | apply dr_keep | apply dr_drop))) _ _ h, 0, s1, by unfold backS flushX; simp only []; rw [hs16, if_neg (by simp)]; simp only [hm]; rw [← hi0, Nat.sub_self]; rfl, rfl, rfl⟩
      · intro r j S hX
        obtain ⟨e, s1, rfl, hx0, rfl⟩ := hX
        refine jmp_r ?_; refine q_block_r (q_then_r ?_); exact ⟨[r], _, rfl, fun _ _ h => mk1 h, .int .i64 e, C (Dev d s1), resA1 rfl (rv_cell1 p29 rfl (by repeat (first | with_reducible exact has_here | with_reducible exact has_pt | apply has_left)) rfl), fun _ _ h => by rw [hC]; exact (Dr.sat (A' := R * Dev d s1) (by repeat (first | with_reducible exact dr_refl | apply dr_keep | apply dr_drop))) _ _ h, e, s1, by unfold backS flushX; simp only []; rw [hs16, if_neg (by simp)]; simp only [hm]; exact hx0, rfl, rfl⟩
end Rg
end Go.Vl

namespace Go.Vl
open Go Go.Proofs
def rvl (L : List (Nat × List Nat)) (vs : List Value) (k : Nat) : Value := .agg #[.int .i64 ((L.getD k (0, [])).1 : Nat), vs.getD k (.slice none 0 0)]
theorem kcl_at : ∀ {L : List (Nat × List Nat)} {vs : List Value} {k : Nat}, vs.length = L.length → k < L.length → ((kcl L vs).drop (k * 2)).take 2 = [.int .i64 ((L.getD k (0, [])).1 : Nat), vs.getD k (.slice none 0 0)]
  | [], [], _, _, h => by simp at h
  | x :: l, v :: vs, 0, _, _ => rfl
  | x :: l, v :: vs, k + 1, h, hk => by
    rw [show (k + 1) * 2 = k * 2 + 1 + 1 by omega]
    show ((kcl l vs).drop (k * 2)).take 2 = _
    rw [kcl_at (by simpa using h) (by simpa using hk)]; rfl
attribute [local irreducible] crk crL crc Sl pt ro Dev imgS recS readS recsF rdW rdO rkT Parts
namespace Rg
theorem bwd1_f {a : Option Addr} {c l N q1 : Nat} {L : List (Nat × List Nat)} {vs : List Value} {J : Nat → SP → Prop} {X : SP → Prop} {S0 : SP} (hL : L.length = N) (hv : vs.length = N) (h2 : N ≤ 1099511627776) (h0 : J 0 S0) (hY : ∀ F i S, i < N → J i S → Yd Tryz.prog l #[.int .i64 ((N - 1 - i : Nat) : Int), rvl L vs (N - 1 - i)] (F * S) (fun v B => ∃ (b : Bool) (S' : SP), v = .bool b ∧ (b = true → J (i + 1) S') ∧ (b = false → X S') ∧ B = F * S')) :
    Fn Tryz.prog 98 #[.func (.yield l) #[] #[], .pointer (some ⟨q1, 0, none⟩)] (S0 * pt q1 (cl [.slice a N c] 84) * Sl 2 (.slice a N c) N (kcl L vs)) (fun r B => r = .tuple #[] ∧ ((∃ S, J N S ∧ B = S * pt q1 (cl [.slice a N c] 84) * Sl 2 (.slice a N c) N (kcl L vs)) ∨ ∃ S, X S ∧ B = S * pt q1 (cl [.slice a N c] 84) * Sl 2 (.slice a N c) N (kcl L vs))) := by
  refine fn_enterW (args := [.func (.yield l) #[] #[], .pointer (some ⟨q1, 0, none⟩)]) Tryz.func98 rfl Tryz.ntmps98 (by simp) ?_; refine tc_seq ?_; refine tc_reg ?_; refine tl_v rfl (by first | exact o_load p84 rfl (by repeat (first | with_reducible exact has_here | with_reducible exact has_pt | apply has_left)) rfl | exact o_loadC p84 rfl (by assumption)) ?_; refine tl_v rfl (o_len Tryz.underlying84 rfl) ?_; refine tl_v rfl (o_subI rfl rfl oqz) ?_; refine tl_env (d := 6) (v := .int .i64 ((N : Nat) - 1 - ((0 : Nat) : Int))) (by show Value.int .i64 ((N : Int) - 1) = _; congr 1; omega) ?_; refine tla ?_; refine tl_nil ?_; refine q_then_n ?_; refine tc_block ?_; refine tc_loop (fun kk ρ BB => ∃ (k : Nat) (S : SP), (k ≤ N) ∧ (J k S) ∧ kk = N - k ∧ ρ 3 = .int .i64 ((N : Nat) - 1 - (k : Nat)) ∧ ρ 19 = undef ∧ ρ 0 = .func (.yield l) #[] #[] ∧ ρ 1 = .pointer (some ⟨q1, 0, none⟩) ∧ BB = S * pt q1 (cl [.slice a N c] 84) * Sl 2 (.slice a N c) N (kcl L vs)) (m := N - (0)) ?_ ?_
  · exact ⟨0, S0, by omega, h0, rfl, rfl, rfl, rfl, rfl, rfl⟩
  · intro k ρ B hI
    obtain ⟨k, S, hp0, hp1, hkk1, hE3, hE19, hE0, hE1, rfl⟩ := hI
    refine tc_env (d := 3) hE3 ?_; refine tc_env (d := 19) hE19 ?_; refine tc_env (d := 0) hE0 ?_; refine tc_env (d := 1) hE1 ?_
    clear hE3 hE19 hE0 hE1
    refine tc_seq ?_; refine tc_seq ?_; refine tc_reg ?_; refine tlm ?_; refine tl_v rfl (o_geq rfl rfl) ?_; refine tl_nil ?_; refine q_then_n ?_; refine tc_cond rfl (fun h => ?_) (fun h => ?_)
    · have hk : k < N := by first | omega | (simp at h; omega)
      refine tc_skip ?_; refine q_then_n ?_; refine tc_seq ?_; refine tc_block ?_; refine tc_seq ?_; refine tc_reg ?_; refine tlm ?_; refine tlm ?_; refine tl_env (d := 12) (v := .int .i64 ((N - 1 - k : Nat) : Int)) (by show Value.int .i64 ((N : Int) - 1 - (k : Int)) = _; congr 1; omega) ?_; refine tl_v rfl (by first | exact o_load p84 rfl (by repeat (first | with_reducible exact has_here | with_reducible exact has_pt | apply has_left)) rfl | exact o_loadC p84 rfl (by assumption)) ?_; refine tlm ?_; refine tl_env (d := 14) (v := .int .i64 ((N - 1 - k : Nat) : Int)) (by show Value.int .i64 ((N : Int) - 1 - (k : Int)) = _; congr 1; omega) ?_; refine tl_v rfl (o_ixP (a := a) Tryz.underlying84 sz92 rfl rfl oqz (nn_sl (by decide))) ?_; refine tl_v rfl (o_ldPN (a := a) (xs := kcl L vs) (vs := [.int .i64 ((L.getD (N - 1 - k) (0, [])).1 : Nat), vs.getD (N - 1 - k) (.slice none 0 0)]) a92 sz92 rfl rs_sl (kcl_at oqz oqz) rfl (by decide)) ?_; refine tl_y rfl rfl rfl (yd_b (F := (pt q1 (cl [.slice a N c] 84) * Sl 2 (.slice a N c) N (kcl L vs))) (G := fun S' => S' * pt q1 (cl [.slice a N c] 84) * Sl 2 (.slice a N c) N (kcl L vs)) (hY _ k S oqz hp1) (by ac_rfl) (fun S' => by ac_rfl)) ?_; rintro _ _ ⟨b17, S2, rfl, hT, hF, rfl⟩; refine tl_v rfl (o_not rfl) ?_; refine tl_nil ?_; refine q_then_n ?_; refine tc_cond rfl (fun h => ?_) (fun h => ?_)
      · have hb : b17 = false := by simpa using h
        subst hb
        refine tc_ret ?_; refine q_block_r (q_then_r (q_then_r (q_block_r ?_))); exact ⟨[], _, rfl, fun _ _ h => mk0 h, .tuple #[], S2 * pt q1 (cl [.slice a N c] 84) * Sl 2 (.slice a N c) N (kcl L vs), res0 rfl, fun _ _ h => h, rfl, .inr ⟨S2, hF rfl, rfl⟩⟩
      · have hb : b17 = true := by simpa using h
        subst hb
        refine tc_skip ?_; refine q_block_n (q_then_n ?_); refine tc_reg ?_; refine tlm ?_; refine tl_v rfl (o_subI rfl rfl oqz) ?_; refine tl_env (d := 10) (v := .int .i64 ((N : Nat) - 1 - ((k + 1 : Nat) : Int))) (by show Value.int .i64 ((N : Int) - 1 - (k : Int) - 1) = _; congr 1; omega) ?_; refine tla ?_; refine tl_nil ?_; refine q_then_n ?_; exact ⟨_, by omega, k + 1, _, by omega, hT rfl, rfl, rfl, rfl, rfl, rfl, rfl⟩
    · have hk : ¬ k < N := by first | omega | (simp at h; omega)
      refine tc_exit ?_; refine q_then_e (q_then_e (q_block_x ?_))
      obtain rfl : N = k := by omega
      exact ⟨[], _, rfl, fun _ _ h => mk0 h, .tuple #[], S * pt q1 (cl [.slice a N c] 84) * Sl 2 (.slice a N c) N (kcl L vs), res0 rfl, fun _ _ h => h, rfl, .inl ⟨S, hp1, rfl⟩⟩
end Rg
theorem bwd_it {a : Option Addr} {c N q1 : Nat} {L : List (Nat × List Nat)} {vs : List Value} (hL : L.length = N) (hv : vs.length = N) (h2 : N ≤ 1099511627776) :
    Rg.It Tryz.prog 98 [] [.pointer (some ⟨q1, 0, none⟩)] (pt q1 (cl [.slice a N c] 84) * Sl 2 (.slice a N c) N (kcl L vs)) N (fun i => [.int .i64 ((N - 1 - i : Nat) : Int), rvl L vs (N - 1 - i)]) := fun l J X S0 h0 hY => by
  have hk : ∀ S : SP, S * (pt q1 (cl [.slice a N c] 84) * Sl 2 (.slice a N c) N (kcl L vs)) = S * pt q1 (cl [.slice a N c] 84) * Sl 2 (.slice a N c) N (kcl L vs) := fun S => (star_assoc _ _ _).symm
  rw [hk S0]
  refine (Rg.bwd1_f (J := J) (X := X) hL hv h2 h0 hY).mono ?_; rintro v B ⟨rfl, ⟨S, hS, rfl⟩ | ⟨S, hS, rfl⟩⟩
  · exact ⟨rfl, .inl ⟨S, hS, (hk S).symm⟩⟩
  · exact ⟨rfl, .inr ⟨S, hS, (hk S).symm⟩⟩
theorem bwd_c {A : SP} {a : Option Addr} {c N : Nat} :
    Fn Tryz.prog 68 #[.slice a N c] (A) (fun r B => ∃ q1, r = .func (.func 98) #[] #[.pointer (some ⟨q1, 0, none⟩)] ∧ B = A * pt q1 (cl [.slice a N c] 84)) := by
  refine fn_enterW (args := [.slice a N c]) Tryz.func68 rfl Tryz.ntmps68 (by simp) ?_; refine sr ?_; refine tl_x rfl (o_box rfl rfl) ?_; rintro _ _ ⟨b1, rfl, rfl⟩; refine tla ?_; refine nq ?_; refine sr ?_; refine tv (o_makeFunc rfl rfl) ?_; refine tla ?_; refine nq ?_; refine tc_ret ?_; exact ⟨_, _, res1 rfl rfl, fun _ _ h => h, b1, rfl, rfl⟩
end Go.Vl

namespace Go.Vl
open Go Go.Proofs
section
variable {at_ sz : Nat} {s s1 s2 s3 : DevS} {L : List (Nat × List Nat)} {e : Int}
theorem roll_no (h : recordsS at_ sz s = (L, e)) (h2 : e ≠ 0 ∨ L = []) : rollS at_ sz s = ((0, e), s) := by unfold rollS; rw [h, if_pos h2]
theorem roll_b (h : recordsS at_ sz s = (L, 0)) (h2 : L ≠ []) (h3 : backF L.reverse s = (e, s2)) (he : e ≠ 0) : rollS at_ sz s = ((0, e), s2) := by
  unfold rollS; rw [h, if_neg (by simp [h2])]; simp only []; rw [h3, if_pos he]
theorem roll_f (h : recordsS at_ sz s = (L, 0)) (h2 : L ≠ []) (h3 : backF L.reverse s = (0, s1)) (h4 : fe s1 = (e, s2)) (he : e ≠ 0) : rollS at_ sz s = ((0, e), s2) := by
  unfold rollS; rw [h, if_neg (by simp [h2])]; simp only []; rw [h3, if_neg (by simp)]; simp only []; rw [h4, if_pos he]
theorem roll_p (h : recordsS at_ sz s = (L, 0)) (h2 : L ≠ []) (h3 : backF L.reverse s = (0, s1)) (h4 : fe s1 = (0, s2)) (h5 : pubP (at_ : Nat) 0 s2 = (e, s3)) (he : e ≠ 0) : rollS at_ sz s = ((0, e), s3) := by
  unfold rollS; rw [h, if_neg (by simp [h2])]; simp only []; rw [h3, if_neg (by simp)]; simp only []; rw [h4, if_neg (by simp)]; simp only []; rw [h5, if_pos he]
theorem roll_o (h : recordsS at_ sz s = (L, 0)) (h2 : L ≠ []) (h3 : backF L.reverse s = (0, s1)) (h4 : fe s1 = (0, s2)) (h5 : pubP (at_ : Nat) 0 s2 = (0, s3)) : rollS at_ sz s = ((((L.length : Nat) : Int), 0), s3) := by
  unfold rollS; rw [h, if_neg (by simp [h2])]; simp only []; rw [h3, if_neg (by simp)]; simp only []; rw [h4, if_neg (by simp)]; simp only []; rw [h5, if_neg (by simp)]
end
def sumL (L : List (Nat × List Nat)) : Nat := (L.map fun x => x.2.length).sum
theorem sumL_cons (x : Nat × List Nat) (L : List (Nat × List Nat)) : sumL (x :: L) = x.2.length + sumL L := by unfold sumL; rw [List.map_cons, List.sum_cons]
theorem sumL_rev (L : List (Nat × List Nat)) : sumL L.reverse = sumL L := by unfold sumL; rw [List.map_reverse, List.sum_reverse]
/-- What a record that was read is like. -/
def RecOk (n at_ sz : Nat) (x : Nat × List Nat) : Prop := mayX n at_ sz ((x.1 : Int), ((x.2.length : Nat) : Int)) = true ∧ ∀ b ∈ x.2, b < 256
theorem read_ok {n at_ sz p : Nat} {room : List Nat} {x : Nat × List Nat} {t : Nat} (hb : ∀ b ∈ room, b < 256) (h : readS n at_ sz room p = some (x, t)) : RecOk n at_ sz x ∧ p + t ≤ room.length ∧ 24 + x.2.length ≤ t := by
  unfold readS at h
  split at h; cases h
  split at h; cases h
  rename_i h2
  split at h; cases h
  rename_i h3
  split at h; cases h
  simp only [Option.some.injEq, Prod.mk.injEq] at h
  obtain ⟨rfl, rfl⟩ := h
  have hu := up8_le (nm ((room.drop (p + 8)).take 8))
  have hl : ((room.drop (p + 24)).take (nm ((room.drop (p + 8)).take 8))).length = nm ((room.drop (p + 8)).take 8) := by rw [List.length_take, List.length_drop]; omega
  refine ⟨⟨?_, fun b hb' => hb b (List.mem_of_mem_drop (List.mem_of_mem_take hb'))⟩, by omega, by rw [hl]; omega⟩
  show mayX n at_ sz (_, ((List.length _ : Nat) : Int)) = true
  rw [hl]; simpa using h2
theorem recsF_ok {n at_ sz : Nat} {room : List Nat} (hb : ∀ b ∈ room, b < 256) : ∀ {k p : Nat} {L : List (Nat × List Nat)}, p ≤ room.length → recsF n at_ sz room k p = (L, 0) → (∀ x ∈ L, RecOk n at_ sz x) ∧ sumL L + 24 * L.length + p ≤ room.length
  | 0, p, L, hp, h => by
    simp only [recsF, Prod.mk.injEq] at h
    obtain ⟨rfl, _⟩ := h
    exact ⟨by simp, by simp [sumL]; exact hp⟩
  | k + 1, p, L, hp, h => by
    have e : recsF n at_ sz room (k + 1) p = match readS n at_ sz room p with
      | none => ([], 110)
      | some (x, t) => if (recsF n at_ sz room k (p + t)).2 ≠ 0 then ([], 110) else (x :: (recsF n at_ sz room k (p + t)).1, 0) := rfl
    rw [e] at h
    cases hr : readS n at_ sz room p with
    | none => rw [hr] at h; simp at h
    | some y =>
      rw [hr] at h
      simp only at h
      obtain ⟨h1, h2, h3⟩ := read_ok hb (x := y.1) (t := y.2) hr
      by_cases h4 : (recsF n at_ sz room k (p + y.2)).2 ≠ 0
      · rw [if_pos h4] at h; simp at h
      · rw [if_neg h4] at h
        simp only [Prod.mk.injEq, and_true] at h
        obtain ⟨g1, g2⟩ := recsF_ok hb (L := (recsF n at_ sz room k (p + y.2)).1) h2 (Prod.ext rfl (by simp only; omega))
        subst h
        refine ⟨fun x hx => ?_, by rw [sumL_cons, List.length_cons]; omega⟩
        rcases List.mem_cons.1 hx with rfl | hx
        · exact h1
        · exact g1 x hx
theorem records_ok {at_ sz : Nat} {s : DevS} {L : List (Nat × List Nat)} (hw : WfD s) (hlw : LogW (s.ls.length * 64) at_ sz) (h : recordsS at_ sz s = (L, 0)) : (∀ x ∈ L, RecOk (s.ls.length * 64) at_ sz x) ∧ sumL L + 24 * L.length ≤ sz - 64 := by
  unfold recordsS at h
  split at h; cases h
  have hl : (roomS at_ sz s).length = sz - 64 := by
    have := imgS_len hw; have := hlw.top; have := hlw.s
    unfold roomS; rw [List.length_take, List.length_drop]; omega
  obtain ⟨h1, h2⟩ := recsF_ok (fun b hb => img_sub b hb) (Nat.zero_le _) h
  have hl2 : (((imgS s).drop (at_ + 64)).take (sz - 64)).length = sz - 64 := hl
  exact ⟨h1, by omega⟩
theorem backF_e {x : Nat × List Nat} {l : List (Nat × List Nat)} {s s2 : DevS} {e : Int} (h : backS x s = (e, s2)) (he : e ≠ 0) : backF (x :: l) s = (e, s2) := by
  show (if (backS x s).1 ≠ 0 then backS x s else _) = _
  rw [h, if_pos he]
theorem backF_o {x : Nat × List Nat} {l : List (Nat × List Nat)} {s s2 : DevS} (h : backS x s = (0, s2)) : backF (x :: l) s = backF l s2 := by
  show (if (backS x s).1 ≠ 0 then backS x s else backF l (backS x s).2) = _
  rw [h, if_neg (by simp)]
theorem rev_at {L : List (Nat × List Nat)} {i : Nat} (h : i < L.length) : L.reverse.drop i = L.getD (L.length - 1 - i) (0, []) :: L.reverse.drop (i + 1) := by
  have h' : i < L.reverse.length := by rw [List.length_reverse]; exact h
  rw [List.drop_eq_getElem_cons h', List.getElem_reverse, List.getD_eq_getElem?_getD, List.getElem?_eq_getElem oqz]; rfl
theorem parts_rs : ∀ {vs : List Value} {ls : List (List Nat)} {k : Nat} (_ : vs.length = ls.length) (h : k < ls.length) {b : Option Addr} {c : Nat}, vs.getD k (.slice none 0 0) = .slice b (ls[k]).length c → ∀ A : SP, Rs (A * Parts vs ls) b (bys ls[k])
  | v :: vs, x :: ls, 0, _, _, b, c, he, A => by
    have e : Parts (v :: vs) (x :: ls) = Parts vs ls * Sl 1 v x.length (bys x) := rfl
    have e2 : v = .slice b x.length c := he
    rw [e, e2, ← star_assoc]; exact rs_sl
  | v :: vs, x :: ls, k + 1, h, hk, b, c, he, A => by
    have e : Parts (v :: vs) (x :: ls) = Parts vs ls * Sl 1 v x.length (bys x) := rfl
    rw [e, ← star_assoc]
    exact (parts_rs (vs := vs) (ls := ls) (k := k) (by simpa using h) (by simpa using hk) he A).left
  | [], x :: ls, _, h, _, _, _, _, _ => by simp at h
  | _, [], _, _, h, _, _, _, _ => by simp at h
theorem parts_getD : ∀ {vs : List Value} {L : List (Nat × List Nat)} {X : SP} {g : Gh} {w : World}, vs.length = L.length → sat g w (X * Parts vs (L.map (·.2))) → ∀ k, k < L.length → ∃ b c, vs.getD k (.slice none 0 0) = .slice b (L.getD k (0, [])).2.length c ∧ (L.getD k (0, [])).2.length ≤ c
  | [], [], _, _, _, _, _ => fun k hk => by simp at hk
  | v :: vs, x :: L, X, g, w, hl, h => by
    have e : Parts (v :: vs) ((x :: L).map (·.2)) = Parts vs (L.map (·.2)) * Sl 1 v x.2.length (bys x.2) := rfl
    rw [e, ← star_assoc] at h
    intro k hk
    cases k with
    | zero =>
      obtain ⟨a, cap, h1, h2, _⟩ := sl_have h
      exact ⟨a, cap, h1, h2⟩
    | succ k => exact parts_getD (by simpa using hl) h.left k (by simpa using hk)
theorem parts_rsL {vs : List Value} {L : List (Nat × List Nat)} {k : Nat} (h : vs.length = L.length) (hk : k < L.length) {b : Option Addr} {c : Nat} (he : vs.getD k (.slice none 0 0) = .slice b (L.getD k (0, [])).2.length c) (A : SP) : Rs (A * Parts vs (L.map (·.2))) b (bys (L.getD k (0, [])).2) := by
  have e1 : L.getD k (0, []) = L[k] := by rw [List.getD_eq_getElem?_getD, List.getElem?_eq_getElem hk]; rfl
  have e2 : (L.map (·.2))[k]'(by rw [List.length_map]; exact hk) = L[k].2 := by rw [List.getElem_map]
  rw [e1] at he ⊢
  rw [← e2] at he ⊢
  exact parts_rs (by rw [List.length_map]; exact h) (by rw [List.length_map]; exact hk) he A
theorem getD_mem {L : List (Nat × List Nat)} {k : Nat} (hk : k < L.length) : L.getD k (0, []) ∈ L := by
  rw [List.getD_eq_getElem?_getD, List.getElem?_eq_getElem hk]; exact List.getElem_mem hk
theorem fl1_wf {p : Int} {s : DevS} (hw : WfD s) : WfD (fl1 p s).2 := by
  unfold fl1
  split
  · exact hw
  · exact doneS_wf (flushS_wf hw)
theorem sto_wf {p : Int} {b : List Nat} {s : DevS} (hw : WfD s) (hb : ∀ x ∈ b, x < 256) (hr : Room b.length s) : WfD (sto p b s).2 := by
  unfold sto
  split
  · exact hw
  · exact (storeF_room b.length (r := 0) rfl hw hb (fun l hl => by have := hr l hl; omega)).2
theorem flL_wf : ∀ (k : Nat) {q : Nat} {s : DevS}, WfD s → WfD (flL k q s).2
  | 0, _, _, h => h
  | k + 1, q, s, hw => by
    show WfD (if (fl1 ((q * 64 : Nat) : Int) s).1 ≠ 0 then fl1 ((q * 64 : Nat) : Int) s else flL k (q + 1) (fl1 ((q * 64 : Nat) : Int) s).2).2
    split
    · exact fl1_wf hw
    · exact flL_wf k (fl1_wf hw)
theorem flL_room : ∀ (k : Nat) {q r : Nat} {s : DevS}, WfD s → Room r s → Room r (flL k q s).2
  | 0, _, _, _, _, h => h
  | k + 1, q, r, s, hw, h => by
    show Room r (if (fl1 ((q * 64 : Nat) : Int) s).1 ≠ 0 then fl1 ((q * 64 : Nat) : Int) s else flL k (q + 1) (fl1 ((q * 64 : Nat) : Int) s).2).2
    have h1 := fl1_room (s2 := (fl1 ((q * 64 : Nat) : Int) s).2) rfl hw h
    split
    · exact h1
    · exact flL_room k (fl1_wf hw) h1
theorem back_room {x : Nat × List Nat} {r : Nat} {s s2 : DevS} {e : Int} (h : backS x s = (e, s2)) (hw : WfD s) (hb : ∀ b ∈ x.2, b < 256) (hr : Room (r + x.2.length) s) : Room r s2 := by
  have hws : WfD (sto (x.1 : Nat) x.2 s).2 := sto_wf hw hb fun l hl => by have := hr l hl; omega
  have h1 := sto_room (e := (sto (x.1 : Nat) x.2 s).1) (s2 := (sto (x.1 : Nat) x.2 s).2) rfl hw hb hr
  unfold backS at h
  split at h
  · have := congrArg Prod.snd h; simp only at this; rw [← this]; exact h1
  · have h2 := flL_room ((x.1 + x.2.length - 1) / 64 - x.1 / 64 + 1) (q := x.1 / 64) hws h1
    have := congrArg Prod.snd h; simp only at this; rw [← this]; exact h2
theorem flL_len : ∀ (k q : Nat) (s : DevS), (flL k q s).2.ls.length = s.ls.length
  | 0, _, _ => rfl
  | k + 1, q, s => by
    show (if (fl1 ((q * 64 : Nat) : Int) s).1 ≠ 0 then fl1 ((q * 64 : Nat) : Int) s else flL k (q + 1) (fl1 ((q * 64 : Nat) : Int) s).2).2.ls.length = _
    split
    · exact fl1_len _ _
    · rw [flL_len k]; exact fl1_len _ _
theorem back_len (x : Nat × List Nat) (s : DevS) : (backS x s).2.ls.length = s.ls.length := by
  unfold backS
  split
  · exact sto_len _ _ _
  · unfold flushX; rw [flL_len]; exact sto_len _ _ _
theorem Records_w {A R : SP} {C : SP → SP} {d : Nat} {s : DevS} (hc : Ct A (Dev d s) R C := by repeat (first | with_reducible exact ct_here | apply ct_left)) {bl at_ sz : Nat} (hl : Has R bl (cl (lcs11 d at_ sz) 94) := by (repeat (first | assumption | with_reducible exact has_here | with_reducible exact has_pt | apply has_left))) (hlw : LogW (s.ls.length * 64) at_ sz := by assumption) {L : List (Nat × List Nat)} {e : Int} (hX : recordsS at_ sz s = (L, e)) : Fn Tryz.prog 25 #[.pointer (some ⟨bl, 0, none⟩)] A (fun r B => ∃ a2 c2 vs, r = .tuple #[.slice a2 L.length c2, .int .i64 e] ∧ L.length ≤ c2 ∧ vs.length = L.length ∧ B = C (Dev d s) * Parts vs (L.map (·.2)) * Sl 2 (.slice a2 L.length c2) L.length (kcl L vs)) := by
  have h := Records_c hc hl hlw
  rw [hX] at h
  exact h
attribute [local irreducible] crk crL crc Sl pt ro Dev imgS recS readS recsF rdW rdO rkT Parts rvl recordsS
namespace Rg
theorem Rollback_c {A R : SP} {C : SP → SP} {d : Nat} {s : DevS} (hc : Ct A (Dev d s) R C := by repeat (first | with_reducible exact ct_here | apply ct_left)) {bl at_ sz : Nat} (hl : Has R bl (cl (lcs11 d at_ sz) 94) := by (repeat (first | assumption | with_reducible exact has_here | with_reducible exact has_pt | apply has_left))) (hlw : LogW (s.ls.length * 64) at_ sz := by assumption) (hroom : Room (sz + 1) s := by assumption) :
    Fn Tryz.prog 26 #[.pointer (some ⟨bl, 0, none⟩)] (A) (fun r B => ∃ e k s2, rollS at_ sz s = ((k, e), s2) ∧ r = .tuple #[.int .i64 k, .int .i64 e] ∧ B = C (Dev d s2)) := by
  refine fn_enterW (args := [.pointer (some ⟨bl, 0, none⟩)]) Tryz.func26 rfl Tryz.ntmps26 (by simp) ?_; refine tc_have (fun _ _ h => ct_wf2 hc h) fun hw => ?_
  have htop := hw.top
  have hpos := hw.pos
  obtain ⟨rfl, hC⟩ := hc
  have hAC : ∀ g w, sat g w (R * Dev d s) → sat g w (C (Dev d s)) := fun g w h => by rw [hC]; exact h
  have hlw9 := hlw
  obtain ⟨w1, w2, w3, w4, w5⟩ := hlw9
  obtain ⟨L, e0, hL⟩ : ∃ L e0, recordsS at_ sz s = (L, e0) := ⟨_, _, rfl⟩
  refine tc_seq ?_; refine tc_reg ?_; refine tl_x rfl (o_box rfl rfl) ?_; rintro _ _ ⟨b1, rfl, rfl⟩; refine tl_x rfl (o_alloc z3 rfl) ?_; rintro _ _ ⟨b2, rfl, rfl⟩; refine tl_x rfl (o_alloc z29 rfl) ?_; rintro _ _ ⟨b3, rfl, rfl⟩; refine tl_nil ?_; refine q_then_n ?_; refine tc_seq ?_; refine tc_reg ?_; refine tl_v rfl (by first | exact o_load p37 rfl (by repeat (first | with_reducible exact has_here | with_reducible exact has_pt | apply has_left)) rfl | exact o_loadC p37 rfl (by assumption)) ?_; refine tl_c rfl (o_call bd25 rfl (Records_w (s := s) (hX := hL))) ?_; rintro _ _ ⟨a13, c13, vs, rfl, hc13, hvs, rfl⟩; refine tl_have (fun _ _ h => parts_getD hvs h.left) fun hps => ?_; refine tlm ?_; refine tl_v rfl (o_extract rfl rfl) ?_; refine tl_v rfl (o_extract rfl rfl) ?_; refine tla ?_; refine tla ?_; refine tl_nil ?_; refine q_then_n ?_; refine tc_seq ?_; refine tc_seq ?_; refine tc_reg ?_; refine tlm ?_; refine tl_v rfl (o_nei rfl rfl) ?_; refine tlm ?_; refine tl_bool (d := 18) rfl (fun h => ?_) (fun h => ?_)
  · have g18 : (e0 ≠ 0) := by first | exact of_decide_eq_true h | (have h2 := h; simp at h2; omega) | simpa using h
    refine tl_skip rfl ?_; refine tl_skip rfl ?_; refine tl_skip rfl ?_; refine tl_v rfl (o_pick_t rfl (by conv => lhs; whnf)) ?_; refine tl_nil ?_; refine q_then_n ?_; refine tc_cond_t rfl ?_; refine tc_seq ?_; refine tc_reg ?_; refine tlm ?_; refine tl_u rfl (o_stU rfl (by repeat (first | with_reducible exact upd_here | with_reducible exact upd_pt | apply upd_left)) sz3 rfl rfl (by first | decide | simp | omega) rfl) ?_; refine tl_u rfl (o_stU rfl (by repeat (first | with_reducible exact upd_here | with_reducible exact upd_pt | apply upd_left)) sz29 rfl rfl (by first | decide | simp | omega) rfl) ?_; refine tl_nil ?_; refine q_then_n ?_; refine tc_ret ?_; refine q_then_r ?_; exact ⟨[], _, rfl, fun _ _ h => mk0 h, .tuple #[.int .i64 0, .int .i64 e0], C (Dev d s), resA2 rfl (rv_cell1 p3 rfl (by repeat (first | with_reducible exact has_here | with_reducible exact has_pt | apply has_left)) rfl) (rv_cell1 p29 rfl (by repeat (first | with_reducible exact has_here | with_reducible exact has_pt | apply has_left)) rfl), fun _ _ h => by rw [hC]; exact (Dr.sat (A' := R * Dev d s) (by repeat (first | with_reducible exact dr_refl | apply dr_keep | apply dr_drop))) _ _ h, e0, 0, s, roll_no hL (by first | exact hor | exact .inl (by assumption)), rfl, rfl⟩
  · have g18 : ¬ (e0 ≠ 0) := by first | exact of_decide_eq_false h | (have h2 := h; simp at h2; omega) | simpa using h
    refine tlm ?_; refine tl_v rfl (o_len Tryz.underlying84 rfl) ?_; refine tl_v rfl (o_eqi rfl rfl) ?_; refine tl_v rfl (o_pick_f rfl (by conv => lhs; whnf)) ?_; refine tl_nil ?_; refine q_then_n ?_; refine tc_cond rfl (fun h => ?_) (fun h => ?_)
    · have hor : e0 ≠ 0 ∨ L = [] := by first | exact .inl (by assumption) | exact .inr (List.eq_nil_of_length_eq_zero (by first | (have := of_decide_eq_true h; omega) | (simp at h; omega)))
      refine tc_seq ?_; refine tc_reg ?_; refine tlm ?_; refine tl_u rfl (o_stU rfl (by repeat (first | with_reducible exact upd_here | with_reducible exact upd_pt | apply upd_left)) sz3 rfl rfl (by first | decide | simp | omega) rfl) ?_; refine tl_u rfl (o_stU rfl (by repeat (first | with_reducible exact upd_here | with_reducible exact upd_pt | apply upd_left)) sz29 rfl rfl (by first | decide | simp | omega) rfl) ?_; refine tl_nil ?_; refine q_then_n ?_; refine tc_ret ?_; refine q_then_r ?_; exact ⟨[], _, rfl, fun _ _ h => mk0 h, .tuple #[.int .i64 0, .int .i64 e0], C (Dev d s), resA2 rfl (rv_cell1 p3 rfl (by repeat (first | with_reducible exact has_here | with_reducible exact has_pt | apply has_left)) rfl) (rv_cell1 p29 rfl (by repeat (first | with_reducible exact has_here | with_reducible exact has_pt | apply has_left)) rfl), fun _ _ h => by rw [hC]; exact (Dr.sat (A' := R * Dev d s) (by repeat (first | with_reducible exact dr_refl | apply dr_keep | apply dr_drop))) _ _ h, e0, 0, s, roll_no hL (by first | exact hor | exact .inl (by assumption)), rfl, rfl⟩
    · obtain rfl : e0 = 0 := by omega
      have hne : L ≠ [] := fun e9 => by subst e9; first | exact of_decide_eq_false h rfl | (simp at h)
      refine tc_skip ?_; refine q_then_n ?_; refine tc_seq ?_; refine tc_seq ?_
      obtain ⟨hrk, hrs⟩ := records_ok hw hlw hL
      refine tc_reg ?_; refine tlm ?_; refine tl_c rfl (o_call bd68 rfl (bwd_c (N := L.length))) ?_; rintro _ _ ⟨q1, rfl, rfl⟩; refine tl_nil ?_; refine q_then_n ?_; refine tc_block ?_; refine tc_rangeI (K := (pt q1 (cl [.slice a13 L.length c13] 84) * Sl 2 (.slice a13 L.length c13) L.length (kcl L vs))) (N := L.length) (A0 := R * Dev d s * Parts vs (L.map (·.2)) * pt b1 (cl [.pointer (some ⟨bl, 0, none⟩)] 37) * pt b2 (cl [.int .i64 0] 3) * pt b3 (cl [.int .i64 0] 29)) (fun i S => ∃ (s1 : DevS), (backF (L.reverse.drop i) s1 = backF L.reverse s) ∧ (s1.ls.length = s.ls.length) ∧ (Room (sumL (L.reverse.drop i) + 1) s1) ∧ S = R * Dev d s1 * Parts vs (L.map (·.2)) * pt b1 (cl [.pointer (some ⟨bl, 0, none⟩)] 37) * pt b2 (cl [.int .i64 0] 3) * pt b3 (cl [.int .i64 0] 29)) (fun j S => ∃ (e : Int) (s1 : DevS), j = .ret ∧ (backF L.reverse s = (e, s1)) ∧ (e ≠ 0) ∧ S = R * Dev d s1 * Parts vs (L.map (·.2)) * pt b1 (cl [.pointer (some ⟨bl, 0, none⟩)] 37) * pt b2 (cl [.int .i64 0] 3) * pt b3 (cl [.int .i64 e] 29)) rfl bd98 (bwd_it (L := L) (vs := vs) (a := a13) (c := c13) rfl hvs oqz) (fun _ => rfl) rfl (fun _ _ h => h.perm (by ac_rfl)) (⟨s, rfl, rfl, fun l hl => by have := hroom l hl; rw [List.drop_zero, sumL_rev]; omega, rfl⟩) ?_ ?_ ?_
      · intro l F i S hi hI
        obtain ⟨s1, hi0, hi1, hi2, rfl⟩ := hI
        refine tc_eq (by simp only [← star_assoc]; rfl) ?_
        have hkk : (L.length - 1 - i) < L.length := by omega
        obtain ⟨xb, xc, hv27, hxc⟩ := hps _ hkk
        have hprs := parts_rsL hvs hkk hv27
        have hdr := rev_at hi
        obtain ⟨hmx, hxb⟩ := hrk _ (getD_mem hkk)
        obtain ⟨zp, zm, hz, y1, y2, y3, y4⟩ := may_nat hmx
        simp only [Prod.mk.injEq, Int.ofNat_inj] at hz
        obtain ⟨hz1, hz2⟩ := hz
        rw [hdr, sumL_cons] at hi2
        refine tc_have (fun _ _ h => ct_wf2 (by repeat (first | with_reducible exact ct_here | apply ct_left)) h) fun hw1 => ?_; refine tc_env (d := 26) (v := .int .i64 (((L.length - 1 - i) : Nat) : Int)) (rfl) ?_; refine tc_env (d := 27) (v := .agg #[.int .i64 ((((L.getD (L.length - 1 - i) (0, [])).1) : Nat) : Int), .slice xb ((L.getD (L.length - 1 - i) (0, [])).2).length xc]) (by show rvl L vs (L.length - 1 - i) = _; unfold rvl; rw [hv27]) ?_; refine tc_reg ?_; refine tl_x rfl (o_alloc z92 rfl) ?_; rintro _ _ ⟨b7, rfl, rfl⟩; refine tl_u rfl (o_stUN (l' := [.int .i64 ((((L.getD (L.length - 1 - i) (0, [])).1) : Nat) : Int), .slice xb ((L.getD (L.length - 1 - i) (0, [])).2).length xc]) rfl (by repeat (first | with_reducible exact upd_here | with_reducible exact upd_pt | apply upd_left)) sz92 rfl rfl rfl (by show 2 ≤ 2; decide) rfl) ?_; refine tl_nil ?_; refine ⟨R * Dev d s1 * Parts vs (L.map (·.2)) * pt b1 (cl [.pointer (some ⟨bl, 0, none⟩)] 37) * pt b2 (cl [.int .i64 0] 3) * pt b3 (cl [.int .i64 0] 29) * pt b7 (cl [.int .i64 ((((L.getD (L.length - 1 - i) (0, [])).1) : Nat) : Int), .slice xb ((L.getD (L.length - 1 - i) (0, [])).2).length xc] 92), fun g w h => by simp only [← star_assoc]; exact Dr.sat (by repeat (first | with_reducible exact dr_refl | apply dr_keep | apply dr_drop)) g w h, fun F => ?_⟩; refine tc_eq (by simp only [← star_assoc]; rfl) ?_; refine tc_block ?_; refine tc_seq ?_; refine tc_reg ?_
        refine tl_v rfl (by first | exact o_load p37 rfl (by repeat (first | with_reducible exact has_here | with_reducible exact has_pt | apply has_left)) rfl | exact o_loadC p37 rfl (by assumption)) ?_; refine tl_v rfl (o_loadN (vs := [.int .i64 ((((L.getD (L.length - 1 - i) (0, [])).1) : Nat) : Int), .slice xb ((L.getD (L.length - 1 - i) (0, [])).2).length xc]) a92 sz92 rfl (by repeat (first | with_reducible exact has_here | with_reducible exact has_pt | apply has_left)) (by show 2 ≤ 2; decide) rfl) ?_; refine tl_c rfl (o_call bd69 rfl (back_c (s := s1) (p := ((L.getD (L.length - 1 - i) (0, [])).1)) (m := ((L.getD (L.length - 1 - i) (0, [])).2).length) (xs := ((L.getD (L.length - 1 - i) (0, [])).2)) (a := xb) (c := xc) (hl := (by repeat (first | assumption | exact has_rt (by assumption) | apply has_left))) (hr := by repeat (first | exact hprs _ | apply Rs.left)) (hmc := hxc) (hb := hxb) (hroom := fun l hl => by have := hi2 l hl; omega))) ?_; rintro _ _ ⟨e30, s30, hs30, rfl, rfl⟩; refine tla ?_; refine tl_nil ?_; refine q_then_n ?_; refine tc_seq ?_; refine tc_reg ?_; refine tlm ?_; refine tl_v rfl (o_nei rfl rfl) ?_; refine tl_nil ?_; refine q_then_n ?_; refine tc_cond rfl (fun h => ?_) (fun h => ?_)
        · have he30 : e30 ≠ 0 := by simpa using h
          refine tc_seq ?_; refine tc_reg ?_; refine tlm ?_; refine tl_u rfl (o_stU rfl (by repeat (first | with_reducible exact upd_here | with_reducible exact upd_pt | apply upd_left)) sz3 rfl rfl (by first | decide | simp | omega) rfl) ?_; refine tl_u rfl (o_stU rfl (by repeat (first | with_reducible exact upd_here | with_reducible exact upd_pt | apply upd_left)) sz29 rfl rfl (by first | decide | simp | omega) rfl) ?_; refine tl_nil ?_; refine q_then_n ?_; refine tc_ret ?_; refine q_block_r ?_; exact ⟨R * Dev d (s30) * Parts vs (L.map (·.2)) * pt b1 (cl [.pointer (some ⟨bl, 0, none⟩)] 37) * pt b2 (cl [.int .i64 0] 3) * pt b3 (cl [.int .i64 (e30)] 29), fun g w h => by simp only [← star_assoc]; exact Dr.sat (by repeat (first | with_reducible exact dr_refl | apply dr_keep | apply dr_drop)) g w h, e30, s30, rfl, by rw [← hi0, hdr]; exact backF_e hs30 he30, he30, rfl⟩
        · obtain rfl : e30 = 0 := by simpa using h
          refine tc_skip ?_; refine q_block_n ?_; exact ⟨R * Dev d (s30) * Parts vs (L.map (·.2)) * pt b1 (cl [.pointer (some ⟨bl, 0, none⟩)] 37) * pt b2 (cl [.int .i64 0] 3) * pt b3 (cl [.int .i64 0] 29), fun g w h => by simp only [← star_assoc]; exact Dr.sat (by repeat (first | with_reducible exact dr_refl | apply dr_keep | apply dr_drop)) g w h, s30, by rw [← hi0, hdr]; exact (backF_o hs30).symm, by have := back_len (L.getD (L.length - 1 - i) (0, [])) s1; rw [show backS (L.getD (L.length - 1 - i) (0, [])) s1 = (0, s30) from hs30] at this; exact this.trans hi1, back_room (x := L.getD (L.length - 1 - i) (0, [])) hs30 hw1 hxb (fun l hl => by have := hi2 l hl; omega), rfl⟩
      · intro r S hI
        obtain ⟨s1, hi0, hi1, hi2, rfl⟩ := hI
        refine q_block_n (q_then_n ?_); refine tc_seq ?_; refine tc_seq ?_
        have hbk : backF L.reverse s = (0, s1) := by rw [← hi0, List.drop_eq_nil_of_le (by rw [List.length_reverse]; exact Nat.le_refl _)]; rfl
        refine tc_have (fun _ _ h => ct_wf2 (by repeat (first | with_reducible exact ct_here | apply ct_left)) h) fun hw1 => ?_
        have hr1 : Room 1 s1 := fun l hl => by have := hi2 l hl; omega
        refine tc_reg ?_; refine tl_v rfl (by first | exact o_load p37 rfl (by repeat (first | with_reducible exact has_here | with_reducible exact has_pt | apply has_left)) rfl | exact o_loadC p37 rfl (by assumption)) ?_; refine tl_v rfl (o_nilCheck rfl) ?_; refine tl_v rfl (o_fieldAddr (o := 0) Tryz.underlying94 rfl rfl sz28 rfl) ?_; refine tl_v rfl (o_load p28 rfl (by repeat (first | assumption | apply has_left)) rfl) ?_; refine tl_c rfl (o_call bd40 rfl (Fence_c (s := s1))) ?_; rintro _ _ ⟨e38, s38, hs38, rfl, rfl⟩; refine tla ?_; refine tl_nil ?_; refine q_then_n ?_; refine tc_seq ?_; refine tc_reg ?_; refine tlm ?_; refine tl_v rfl (o_nei rfl rfl) ?_; refine tl_nil ?_; refine q_then_n ?_; refine tc_cond rfl (fun h => ?_) (fun h => ?_)
        · have he38 : e38 ≠ 0 := by simpa using h
          refine tc_seq ?_; refine tc_reg ?_; refine tlm ?_; refine tl_u rfl (o_stU rfl (by repeat (first | with_reducible exact upd_here | with_reducible exact upd_pt | apply upd_left)) sz3 rfl rfl (by first | decide | simp | omega) rfl) ?_; refine tl_u rfl (o_stU rfl (by repeat (first | with_reducible exact upd_here | with_reducible exact upd_pt | apply upd_left)) sz29 rfl rfl (by first | decide | simp | omega) rfl) ?_; refine tl_nil ?_; refine q_then_n ?_; refine tc_ret ?_; refine q_then_r ?_; exact ⟨[r], _, rfl, fun _ _ h => mk1 h, .tuple #[.int .i64 0, .int .i64 e38], C (Dev d s38), resA2 rfl (rv_cell1 p3 rfl (by repeat (first | with_reducible exact has_here | with_reducible exact has_pt | apply has_left)) rfl) (rv_cell1 p29 rfl (by repeat (first | with_reducible exact has_here | with_reducible exact has_pt | apply has_left)) rfl), fun _ _ h => by rw [hC]; exact (Dr.sat (A' := R * Dev d s38) (by repeat (first | with_reducible exact dr_refl | apply dr_keep | apply dr_drop))) _ _ h, e38, 0, s38, roll_f hL hne hbk hs38 he38, rfl, rfl⟩
        · obtain rfl : e38 = 0 := by simpa using h
          have hr2 := fe_room hs38 hw1 hr1
          refine tc_skip ?_; refine q_then_n ?_; refine tc_seq ?_; refine tc_seq ?_; refine tc_cut (fun ρ BB => ∃ (e50 : Int) (s50 : DevS), (pubP (at_ : Nat) 0 s38 = (e50, s50)) ∧ ρ 10 = .int .i64 e50 ∧ ρ 56 = mkv [r] ∧ ρ 2 = .pointer (some ⟨b2, 0, none⟩) ∧ ρ 3 = .pointer (some ⟨b3, 0, none⟩) ∧ ρ 4 = .slice a13 L.length c13 ∧ Dr BB (R * Dev d s50 * Parts vs (L.map (·.2)) * pt b1 (cl [.pointer (some ⟨bl, 0, none⟩)] 37) * pt b2 (cl [.int .i64 0] 3) * pt b3 (cl [.int .i64 0] 29) * pt r mkO)) ?_ ?_
          · skip
            refine tc_regh (S := R) mo (by repeat (first | with_reducible exact dr_refl | apply dr_keep | apply dr_drop)) ?_
            show TH _ _ _ _ _ 10 #[ff,ff,ff,ff,ff,ff,ff,ff,ff,ff] _ _
            refine th_two (i := 0) (j := 4) kqz ?_ ?_
            · skip
              refine oh_v (i := 0) (listed' := #[tt,ff,ff,ff,ff,ff,ff,ff,ff,ff]) rfl rfl rfl (by first | exact o_load p37 rfl (by repeat (first | with_reducible exact has_here | with_reducible exact has_pt | apply has_left)) rfl | exact o_loadC p37 rfl (by assumption)) ?_; refine th_take (i := 1) (listed' := #[tt,tt,ff,ff,ff,ff,ff,ff,ff,ff]) rfl kqz kqz kqz rfl rfl (o_nilCheck rfl) ?_; refine th_take (i := 2) (listed' := #[tt,tt,tt,ff,ff,ff,ff,ff,ff,ff]) rfl kqz kqz kqz rfl rfl (o_fieldAddr (o := 0) Tryz.underlying94 rfl rfl sz28 rfl) ?_; refine th_two (i := 3) (j := 4) kqz ?_ ?_
              · skip
                refine oh_v (i := 3) (listed' := #[tt,tt,tt,tt,ff,ff,ff,ff,ff,ff]) rfl rfl rfl (o_load p28 rfl (by repeat (first | assumption | apply has_left)) rfl) ?_; refine th_one (i := 4) kqz ?_; refine oh_v (i := 4) (listed' := #[tt,tt,tt,tt,tt,ff,ff,ff,ff,ff]) rfl rfl rfl (by first | exact o_load p37 rfl (by repeat (first | with_reducible exact has_here | with_reducible exact has_pt | apply has_left)) rfl | exact o_loadC p37 rfl (by assumption)) ?_; refine th_take (i := 5) (listed' := #[tt,tt,tt,tt,tt,tt,ff,ff,ff,ff]) rfl kqz kqz kqz rfl rfl (o_nilCheck rfl) ?_; refine th_take (i := 6) (listed' := #[tt,tt,tt,tt,tt,tt,tt,ff,ff,ff]) rfl kqz kqz kqz rfl rfl (o_fieldAddr (o := 1) Tryz.underlying94 rfl rfl sz3 rfl) ?_; refine th_one (i := 7) kqz ?_; refine oh_v (i := 7) (listed' := #[tt,tt,tt,tt,tt,tt,tt,tt,ff,ff]) rfl rfl rfl (o_load p3 rfl (by repeat (first | assumption | apply has_left)) rfl) ?_; refine th_one (i := 8) kqz ?_; refine oh_c (i := 8) (listed' := #[tt,tt,tt,tt,tt,tt,tt,tt,tt,ff]) rfl rfl rfl (o_call bd63 rfl (Publish_c (s := s38) (p := (at_ : Nat)) (v := 0))) ?_; rintro _ _ ⟨e50, s50, hs50, rfl, rfl⟩; refine ⟨by repeat (first | with_reducible exact dr_refl | apply dr_keep | apply dr_drop), ?_⟩; refine th_take (i := 9) (listed' := #[tt,tt,tt,tt,tt,tt,tt,tt,tt,tt]) rfl kqz kqz kqz rfl rfl (o_assign (by conv => lhs; whnf)) ?_
                refine th_done kqz ?_; exact ⟨e50, s50, hs50, rfl, rfl, rfl, rfl, rfl, (by repeat (first | with_reducible exact dr_refl | apply dr_keep | apply dr_drop))⟩
              · skip
                refine oh_v (i := 4) (listed' := #[tt,tt,tt,ff,tt,ff,ff,ff,ff,ff]) rfl rfl rfl (by first | exact o_load p37 rfl (by repeat (first | with_reducible exact has_here | with_reducible exact has_pt | apply has_left)) rfl | exact o_loadC p37 rfl (by assumption)) ?_; refine th_take (i := 5) (listed' := #[tt,tt,tt,ff,tt,tt,ff,ff,ff,ff]) rfl kqz kqz kqz rfl rfl (o_nilCheck rfl) ?_; refine th_take (i := 6) (listed' := #[tt,tt,tt,ff,tt,tt,tt,ff,ff,ff]) rfl kqz kqz kqz rfl rfl (o_fieldAddr (o := 1) Tryz.underlying94 rfl rfl sz3 rfl) ?_; refine th_two (i := 3) (j := 7) kqz ?_ ?_
                · skip
                  refine oh_v (i := 3) (listed' := #[tt,tt,tt,tt,tt,tt,tt,ff,ff,ff]) rfl rfl rfl (o_load p28 rfl (by repeat (first | assumption | apply has_left)) rfl) ?_; refine th_one (i := 7) kqz ?_; refine oh_v (i := 7) (listed' := #[tt,tt,tt,tt,tt,tt,tt,tt,ff,ff]) rfl rfl rfl (o_load p3 rfl (by repeat (first | assumption | apply has_left)) rfl) ?_; refine th_one (i := 8) kqz ?_; refine oh_c (i := 8) (listed' := #[tt,tt,tt,tt,tt,tt,tt,tt,tt,ff]) rfl rfl rfl (o_call bd63 rfl (Publish_c (s := s38) (p := (at_ : Nat)) (v := 0))) ?_; rintro _ _ ⟨e50, s50, hs50, rfl, rfl⟩; refine ⟨by repeat (first | with_reducible exact dr_refl | apply dr_keep | apply dr_drop), ?_⟩; refine th_take (i := 9) (listed' := #[tt,tt,tt,tt,tt,tt,tt,tt,tt,tt]) rfl kqz kqz kqz rfl rfl (o_assign (by conv => lhs; whnf)) ?_; refine th_done kqz ?_; exact ⟨e50, s50, hs50, rfl, rfl, rfl, rfl, rfl, (by repeat (first | with_reducible exact dr_refl | apply dr_keep | apply dr_drop))⟩
                · skip
                  refine oh_v (i := 7) (listed' := #[tt,tt,tt,ff,tt,tt,tt,tt,ff,ff]) rfl rfl rfl (o_load p3 rfl (by repeat (first | assumption | apply has_left)) rfl) ?_; refine th_one (i := 3) kqz ?_; refine oh_v (i := 3) (listed' := #[tt,tt,tt,tt,tt,tt,tt,tt,ff,ff]) rfl rfl rfl (o_load p28 rfl (by repeat (first | assumption | apply has_left)) rfl) ?_; refine th_one (i := 8) kqz ?_; refine oh_c (i := 8) (listed' := #[tt,tt,tt,tt,tt,tt,tt,tt,tt,ff]) rfl rfl rfl (o_call bd63 rfl (Publish_c (s := s38) (p := (at_ : Nat)) (v := 0))) ?_; rintro _ _ ⟨e50, s50, hs50, rfl, rfl⟩; refine ⟨by repeat (first | with_reducible exact dr_refl | apply dr_keep | apply dr_drop), ?_⟩; refine th_take (i := 9) (listed' := #[tt,tt,tt,tt,tt,tt,tt,tt,tt,tt]) rfl kqz kqz kqz rfl rfl (o_assign (by conv => lhs; whnf)) ?_; refine th_done kqz ?_; exact ⟨e50, s50, hs50, rfl, rfl, rfl, rfl, rfl, (by repeat (first | with_reducible exact dr_refl | apply dr_keep | apply dr_drop))⟩
            · skip
              refine oh_v (i := 4) (listed' := #[ff,ff,ff,ff,tt,ff,ff,ff,ff,ff]) rfl rfl rfl (by first | exact o_load p37 rfl (by repeat (first | with_reducible exact has_here | with_reducible exact has_pt | apply has_left)) rfl | exact o_loadC p37 rfl (by assumption)) ?_; refine th_take (i := 5) (listed' := #[ff,ff,ff,ff,tt,tt,ff,ff,ff,ff]) rfl kqz kqz kqz rfl rfl (o_nilCheck rfl) ?_; refine th_take (i := 6) (listed' := #[ff,ff,ff,ff,tt,tt,tt,ff,ff,ff]) rfl kqz kqz kqz rfl rfl (o_fieldAddr (o := 1) Tryz.underlying94 rfl rfl sz3 rfl) ?_; refine th_two (i := 0) (j := 7) kqz ?_ ?_
              · skip
                refine oh_v (i := 0) (listed' := #[tt,ff,ff,ff,tt,tt,tt,ff,ff,ff]) rfl rfl rfl (by first | exact o_load p37 rfl (by repeat (first | with_reducible exact has_here | with_reducible exact has_pt | apply has_left)) rfl | exact o_loadC p37 rfl (by assumption)) ?_; refine th_take (i := 1) (listed' := #[tt,tt,ff,ff,tt,tt,tt,ff,ff,ff]) rfl kqz kqz kqz rfl rfl (o_nilCheck rfl) ?_; refine th_take (i := 2) (listed' := #[tt,tt,tt,ff,tt,tt,tt,ff,ff,ff]) rfl kqz kqz kqz rfl rfl (o_fieldAddr (o := 0) Tryz.underlying94 rfl rfl sz28 rfl) ?_; refine th_two (i := 3) (j := 7) kqz ?_ ?_
                · skip
                  refine oh_v (i := 3) (listed' := #[tt,tt,tt,tt,tt,tt,tt,ff,ff,ff]) rfl rfl rfl (o_load p28 rfl (by repeat (first | assumption | apply has_left)) rfl) ?_; refine th_one (i := 7) kqz ?_; refine oh_v (i := 7) (listed' := #[tt,tt,tt,tt,tt,tt,tt,tt,ff,ff]) rfl rfl rfl (o_load p3 rfl (by repeat (first | assumption | apply has_left)) rfl) ?_; refine th_one (i := 8) kqz ?_; refine oh_c (i := 8) (listed' := #[tt,tt,tt,tt,tt,tt,tt,tt,tt,ff]) rfl rfl rfl (o_call bd63 rfl (Publish_c (s := s38) (p := (at_ : Nat)) (v := 0))) ?_; rintro _ _ ⟨e50, s50, hs50, rfl, rfl⟩; refine ⟨by repeat (first | with_reducible exact dr_refl | apply dr_keep | apply dr_drop), ?_⟩; refine th_take (i := 9) (listed' := #[tt,tt,tt,tt,tt,tt,tt,tt,tt,tt]) rfl kqz kqz kqz rfl rfl (o_assign (by conv => lhs; whnf)) ?_; refine th_done kqz ?_; exact ⟨e50, s50, hs50, rfl, rfl, rfl, rfl, rfl, (by repeat (first | with_reducible exact dr_refl | apply dr_keep | apply dr_drop))⟩
                · skip
                  refine oh_v (i := 7) (listed' := #[tt,tt,tt,ff,tt,tt,tt,tt,ff,ff]) rfl rfl rfl (o_load p3 rfl (by repeat (first | assumption | apply has_left)) rfl) ?_; refine th_one (i := 3) kqz ?_; refine oh_v (i := 3) (listed' := #[tt,tt,tt,tt,tt,tt,tt,tt,ff,ff]) rfl rfl rfl (o_load p28 rfl (by repeat (first | assumption | apply has_left)) rfl) ?_; refine th_one (i := 8) kqz ?_; refine oh_c (i := 8) (listed' := #[tt,tt,tt,tt,tt,tt,tt,tt,tt,ff]) rfl rfl rfl (o_call bd63 rfl (Publish_c (s := s38) (p := (at_ : Nat)) (v := 0))) ?_; rintro _ _ ⟨e50, s50, hs50, rfl, rfl⟩; refine ⟨by repeat (first | with_reducible exact dr_refl | apply dr_keep | apply dr_drop), ?_⟩; refine th_take (i := 9) (listed' := #[tt,tt,tt,tt,tt,tt,tt,tt,tt,tt]) rfl kqz kqz kqz rfl rfl (o_assign (by conv => lhs; whnf)) ?_; refine th_done kqz ?_; exact ⟨e50, s50, hs50, rfl, rfl, rfl, rfl, rfl, (by repeat (first | with_reducible exact dr_refl | apply dr_keep | apply dr_drop))⟩
              · skip
                refine oh_v (i := 7) (listed' := #[ff,ff,ff,ff,tt,tt,tt,tt,ff,ff]) rfl rfl rfl (o_load p3 rfl (by repeat (first | assumption | apply has_left)) rfl) ?_; refine th_one (i := 0) kqz ?_; refine oh_v (i := 0) (listed' := #[tt,ff,ff,ff,tt,tt,tt,tt,ff,ff]) rfl rfl rfl (by first | exact o_load p37 rfl (by repeat (first | with_reducible exact has_here | with_reducible exact has_pt | apply has_left)) rfl | exact o_loadC p37 rfl (by assumption)) ?_; refine th_take (i := 1) (listed' := #[tt,tt,ff,ff,tt,tt,tt,tt,ff,ff]) rfl kqz kqz kqz rfl rfl (o_nilCheck rfl) ?_; refine th_take (i := 2) (listed' := #[tt,tt,tt,ff,tt,tt,tt,tt,ff,ff]) rfl kqz kqz kqz rfl rfl (o_fieldAddr (o := 0) Tryz.underlying94 rfl rfl sz28 rfl) ?_; refine th_one (i := 3) kqz ?_; refine oh_v (i := 3) (listed' := #[tt,tt,tt,tt,tt,tt,tt,tt,ff,ff]) rfl rfl rfl (o_load p28 rfl (by repeat (first | assumption | apply has_left)) rfl) ?_; refine th_one (i := 8) kqz ?_; refine oh_c (i := 8) (listed' := #[tt,tt,tt,tt,tt,tt,tt,tt,tt,ff]) rfl rfl rfl (o_call bd63 rfl (Publish_c (s := s38) (p := (at_ : Nat)) (v := 0))) ?_; rintro _ _ ⟨e50, s50, hs50, rfl, rfl⟩; refine ⟨by repeat (first | with_reducible exact dr_refl | apply dr_keep | apply dr_drop), ?_⟩; refine th_take (i := 9) (listed' := #[tt,tt,tt,tt,tt,tt,tt,tt,tt,tt]) rfl kqz kqz kqz rfl rfl (o_assign (by conv => lhs; whnf)) ?_
                refine th_done kqz ?_; exact ⟨e50, s50, hs50, rfl, rfl, rfl, rfl, rfl, (by repeat (first | with_reducible exact dr_refl | apply dr_keep | apply dr_drop))⟩
          · intro ρ B hI
            obtain ⟨e50, s50, hst0, hE10, hE56, hE2, hE3, hE4, hBA⟩ := hI
            refine q_then_n ?_; refine tc_pre hBA.sat ?_
            clear hBA
            refine tc_env (d := 10) hE10 ?_; refine tc_env (d := 56) hE56 ?_; refine tc_env (d := 2) hE2 ?_; refine tc_env (d := 3) hE3 ?_; refine tc_env (d := 4) hE4 ?_
            clear hE10 hE56 hE2 hE3 hE4
            refine tc_seq ?_; refine tc_reg ?_; refine tlm ?_; refine tl_v rfl (o_nei rfl rfl) ?_; refine tl_nil ?_; refine q_then_n ?_; refine tc_cond rfl (fun h => ?_) (fun h => ?_)
            · have he50 : e50 ≠ 0 := by simpa using h
              refine tc_seq ?_; refine tc_reg ?_; refine tlm ?_; refine tl_u rfl (o_stU rfl (by repeat (first | with_reducible exact upd_here | with_reducible exact upd_pt | apply upd_left)) sz3 rfl rfl (by first | decide | simp | omega) rfl) ?_; refine tl_u rfl (o_stU rfl (by repeat (first | with_reducible exact upd_here | with_reducible exact upd_pt | apply upd_left)) sz29 rfl rfl (by first | decide | simp | omega) rfl) ?_; refine tl_nil ?_; refine q_then_n ?_; refine tc_ret ?_; refine q_then_r ?_; exact ⟨[r], _, rfl, fun _ _ h => mk1 h, .tuple #[.int .i64 0, .int .i64 e50], C (Dev d s50), resA2 rfl (rv_cell1 p3 rfl (by repeat (first | with_reducible exact has_here | with_reducible exact has_pt | apply has_left)) rfl) (rv_cell1 p29 rfl (by repeat (first | with_reducible exact has_here | with_reducible exact has_pt | apply has_left)) rfl), fun _ _ h => by rw [hC]; exact (Dr.sat (A' := R * Dev d s50) (by repeat (first | with_reducible exact dr_refl | apply dr_keep | apply dr_drop))) _ _ h, e50, 0, s50, roll_p hL hne hbk hs38 hst0 he50, rfl, rfl⟩
            · obtain rfl : e50 = 0 := by simpa using h
              refine tc_skip ?_; refine q_then_n ?_; refine tc_seq ?_; refine tc_reg ?_; refine tlm ?_; refine tl_v rfl (o_len Tryz.underlying84 rfl) ?_; refine tl_u rfl (o_stU rfl (by repeat (first | with_reducible exact upd_here | with_reducible exact upd_pt | apply upd_left)) sz3 rfl rfl (by first | decide | simp | omega) rfl) ?_; refine tl_u rfl (o_stU rfl (by repeat (first | with_reducible exact upd_here | with_reducible exact upd_pt | apply upd_left)) sz29 rfl rfl (by first | decide | simp | omega) rfl) ?_; refine tl_nil ?_; refine q_then_n ?_; refine tc_ret ?_; exact ⟨[r], _, rfl, fun _ _ h => mk1 h, .tuple #[.int .i64 ((L.length : Nat) : Int), .int .i64 0], C (Dev d s50), resA2 rfl (rv_cell1 p3 rfl (by repeat (first | with_reducible exact has_here | with_reducible exact has_pt | apply has_left)) rfl) (rv_cell1 p29 rfl (by repeat (first | with_reducible exact has_here | with_reducible exact has_pt | apply has_left)) rfl), fun _ _ h => by rw [hC]; exact (Dr.sat (A' := R * Dev d s50) (by repeat (first | with_reducible exact dr_refl | apply dr_keep | apply dr_drop))) _ _ h, 0, ((L.length : Nat) : Int), s50, roll_o hL hne hbk hs38 hst0, rfl, rfl⟩
      · intro r j S hX
        obtain ⟨e, s1, rfl, hx0, hx1, rfl⟩ := hX
        refine jmp_r ?_; refine q_block_r (q_then_r ?_); exact ⟨[r], _, rfl, fun _ _ h => mk1 h, .tuple #[.int .i64 0, .int .i64 e], C (Dev d s1), resA2 rfl (rv_cell1 p3 rfl (by repeat (first | with_reducible exact has_here | with_reducible exact has_pt | apply has_left)) rfl) (rv_cell1 p29 rfl (by repeat (first | with_reducible exact has_here | with_reducible exact has_pt | apply has_left)) rfl), fun _ _ h => by rw [hC]; exact (Dr.sat (A' := R * Dev d s1) (by repeat (first | with_reducible exact dr_refl | apply dr_keep | apply dr_drop))) _ _ h, e, 0, s1, roll_b hL hne hx0 hx1, rfl, rfl⟩
end Rg
end Go.Vl

namespace Go.Vl
open Go Go.Proofs
theorem need_val : ∀ {l : List (Int × Int)} {s : Int}, (∀ x ∈ l, 1 ≤ x.2 ∧ x.2 ≤ 4194304) → 0 ≤ s → s + (needN l : Nat) ≤ 4611686018427387904 → needF (lensX l) s = (s + (needN l : Nat), 0)
  | [], s, _, _, _ => by
    show (s, (0 : Int)) = (s + ((0 : Nat) : Int), 0)
    rw [show s + ((0 : Nat) : Int) = s by omega]
  | x :: l, s, hx, h0, hs => by
    have h1 := hx x (by simp)
    obtain ⟨n, hn⟩ := Int.eq_ofNat_of_zero_le (show 0 ≤ x.2 by omega)
    have hc : lensX (x :: l) = (n : Int) :: lensX l := by unfold lensX; rw [List.map_cons, hn]
    have hu := up8_le n
    have e : rndS n = (((up8 n : Nat) : Int), 0) := by unfold rndS; have : pad8 n < 8 := (by unfold pad8; omega); rw [if_neg oqz]
    rw [needN_cons, hn, Int.toNat_natCast] at hs ⊢
    rw [hc, needF_cons oqz, e, if_neg (by simp only [ne_eq, not_true, false_or]; omega)]
    simp only
    rw [need_val (fun x hx' => hx x (List.mem_cons_of_mem _ hx')) oqz oqz]
    congr 1; omega
theorem need_may {n at_ sz : Nat} {l : List (Int × Int)} (hn : n ≤ 4194304) (hl : l.all (mayX n at_ sz) = true) (hN : needN l ≤ 4194304) : needS (lensX l) = (((needN l : Nat) : Int), 0) := by
  unfold needS
  rw [need_val (fun x hx => by obtain ⟨p, m, rfl, _, h1, h2, _⟩ := may_nat (List.all_eq_true.1 hl x hx); exact ⟨by show (1 : Int) ≤ (m : Int); omega, by show (m : Int) ≤ 4194304; omega⟩) (by decide) oqz]
  congr 1; omega
/-! ### What a record reads -/
theorem take_app {a b : List Nat} {n : Nat} (h : a.length = n) : (a ++ b).take n = a := List.take_left' h
theorem drop_app {a b : List Nat} {n : Nat} (h : a.length = n) : (a ++ b).drop n = b := List.drop_left' h
theorem read_rec {n at_ sz p w : Nat} {room old rest : List Nat} (hn : n ≤ 4194304) (hd : room.drop p = recS w old ++ rest) (hm : mayX n at_ sz ((w : Int), ((old.length : Nat) : Int)) = true) : readS n at_ sz room p = some ((w, old), 24 + up8 old.length) := by
  obtain ⟨w', m', hz, y1, y2, y3, y4⟩ := may_nat hm
  simp only [Prod.mk.injEq, Int.ofNat_inj] at hz
  obtain ⟨z1, z2⟩ := hz
  have hrl := recS_len w old
  have hlen : room.length - p = (24 + up8 old.length) + rest.length := by
    have := congrArg List.length hd
    rw [List.length_drop, List.length_append, hrl] at this; exact this
  have hu := up8_le old.length
  have hd8 : room.drop (p + 8) = le 8 old.length ++ (le 8 (crc 0 (recH w old.length ++ old)) ++ old ++ List.replicate (pad8 old.length) 0 ++ rest) := by
    rw [← List.drop_drop, hd, recS_eq]
    unfold recH
    simp only [List.append_assoc]
    rw [drop_app (le_length 8 _)]
  have hd24 : room.drop (p + 24) = old ++ (List.replicate (pad8 old.length) 0 ++ rest) := by
    rw [← List.drop_drop, hd, recS_eq]
    rw [List.append_assoc, List.append_assoc, drop_app (by rw [List.length_append, recH_len, le_length])]
  have e1 : nm ((room.drop p).take 8) = w := by
    rw [hd, recS_eq]; unfold recH
    simp only [List.append_assoc]
    rw [take_app (le_length 8 _), nm_le]
    exact Nat.mod_eq_of_lt (by have : (256 : Nat) ^ 8 = 18446744073709551616 := by decide
                               omega)
  have e2 : nm ((room.drop (p + 8)).take 8) = old.length := by
    rw [hd8, take_app (le_length 8 _), nm_le]
    exact Nat.mod_eq_of_lt (by have : (256 : Nat) ^ 8 = 18446744073709551616 := by decide
                               omega)
  have e3 : (room.drop (p + 24)).take old.length = old := by rw [hd24, take_app rfl]
  have e4 : (room.drop p).take (24 + up8 old.length) = recS w old := by rw [hd, take_app hrl]
  have := read_good (n := n) (at_ := at_) (sz := sz) e1 e2 oqz hm oqz (by rw [e3, e4])
  rw [e3] at this; exact this
def oldsL (I : List Nat) (l : List (Int × Int)) : List (Nat × List Nat) := l.map fun x => (x.1.toNat, (I.drop x.1.toNat).take x.2.toNat)
theorem recs_of {n at_ sz : Nat} {I room : List Nat} (hn : n ≤ 4194304) (hI : I.length = n) : ∀ {l : List (Int × Int)} {p : Nat} {rest : List Nat}, l.all (mayX n at_ sz) = true → room.drop p = recsB I l ++ rest → recsF n at_ sz room l.length p = (oldsL I l, 0)
  | [], _, _, _, _ => rfl
  | x :: l, p, rest, hl, hd => by
    rw [List.all_cons, Bool.and_eq_true] at hl
    obtain ⟨q, m, rfl, y1, y2, y3, y4⟩ := may_nat hl.1
    have hol : ((I.drop q).take m).length = m := by rw [List.length_take, List.length_drop]; omega
    rw [recsB_cons, List.append_assoc] at hd
    simp only [Int.toNat_natCast] at hd
    have hr := read_rec (at_ := at_) (sz := sz) hn hd (by rw [hol]; exact hl.1)
    rw [hol] at hr
    have hd2 : room.drop (p + (24 + up8 m)) = recsB I l ++ rest := by
      rw [← List.drop_drop, hd, drop_app (by rw [recS_len, hol])]
    have ih := recs_of hn hI hl.2 hd2
    rw [List.length_cons]
    have e : recsF n at_ sz room (l.length + 1) p = match readS n at_ sz room p with
      | none => ([], 110)
      | some (x, t) => if (recsF n at_ sz room l.length (p + t)).2 ≠ 0 then ([], 110) else (x :: (recsF n at_ sz room l.length (p + t)).1, 0) := rfl
    rw [e, hr]
    simp only
    rw [ih, if_neg (by simp)]
    rfl
/-- What a log tells, by its image. -/
theorem records_of {at_ sz : Nat} {I : List Nat} {l : List (Int × Int)} {s : DevS} (hw : WfD s) (hO : s.off = false) (hlw : LogW (s.ls.length * 64) at_ sz) (hI : I.length = s.ls.length * 64) (hl : l.all (mayX (s.ls.length * 64) at_ sz) = true) (hN : needN l ≤ sz - 64)
    (h1 : nm (((imgS s).drop at_).take 8) = l.length) (h2 : ((imgS s).drop (at_ + 64)).take (needN l) = recsB I l) : recordsS at_ sz s = (oldsL I l, 0) := by
  have htop := hw.top
  have ht := hlw.top; have hsz := hlw.s; have ham := hlw.am
  unfold recordsS
  rw [if_neg (by rw [hO]; decide), word_in hO oqz oqz, h1]
  refine recs_of (rest := (((imgS s).drop (at_ + 64)).drop (needN l)).take (sz - 64 - needN l)) oqz hI hl ?_
  unfold roomS
  rw [List.drop_zero, ← h2]
  rw [show sz - 64 = needN l + (sz - 64 - needN l) by omega, List.take_add]
  congr 1
  congr 1
  omega
theorem records_none {at_ sz : Nat} {s : DevS} (hO : s.off = false) (hlw : LogW (s.ls.length * 64) at_ sz) (h1 : nm (((imgS s).drop at_).take 8) = 0) : recordsS at_ sz s = ([], 0) := by
  have ht := hlw.top; have hsz := hlw.s; have ham := hlw.am
  unfold recordsS
  rw [if_neg (by rw [hO]; decide), word_in hO oqz oqz, h1]; rfl
/-! ### A Write -/
def wrI1 (at_ : Nat) (I : List Nat) (l : List (Int × Int)) : List Nat := spl I (at_ + 64) (recsB I l)
def wrI (at_ : Nat) (I : List Nat) (l : List (Int × Int)) : List Nat := spl (wrI1 at_ I l) at_ (le 8 l.length)
theorem write_loss {at_ sz : Nat} {l : List (Int × Int)} {s : DevS} (hw : WfD s) (hO : s.off = false) (hc : Cln s) (hlw : LogW (s.ls.length * 64) at_ sz) (hl : l.all (mayX (s.ls.length * 64) at_ sz) = true) (hne : l ≠ []) (hN : needN l ≤ sz - 64) (h0 : nm (((imgS s).drop at_).take 8) = 0) (hroom : Room (needN l + 1) s) :
    ∃ e s2, writeS at_ sz l s = (e, s2) ∧ WfD s2 ∧ s2.ls.length = s.ls.length ∧ Cln s2 ∧ ((e = 0 ∧ s2.off = false ∧ imgS s2 = wrI at_ (imgS s) l) ∨ (e = 5 ∧ s2.off = true ∧ (Out (at_ + 64) (at_ + sz) (imgS s2) (imgS s) ∨ imgS s2 = wrI at_ (imgS s) l))) := by
  have htop := hw.top
  have ht := hlw.top; have hsz := hlw.s; have ham := hlw.am
  have hil := imgS_len hw
  have hwd := word_in (s := s) (p := at_) hO oqz oqz
  have hnd := need_may (n := s.ls.length * 64) oqz hl oqz
  have hrl := recsB_len hil hl
  have hl1 : 1 ≤ needN l := Nat.le_trans (List.length_pos_iff.2 hne) (needN_ge l)
  have hllt : l.length < 18446744073709551616 := Nat.lt_of_le_of_lt (needN_ge l) oqz
  obtain ⟨I0, hI0⟩ : ∃ I, imgS s = I := ⟨_, rfl⟩
  rw [hI0] at hil hrl h0
  have hI1l : (wrI1 at_ I0 l).length = s.ls.length * 64 := by unfold wrI1; rw [spl_length oqz, hil]
  obtain ⟨e1, s1, g1, g2⟩ := put_loss (X := fun q c => ∀ j, j < 64 → ¬ (at_ + 64 ≤ q * 64 + j ∧ q * 64 + j < at_ + sz) → c[j]? = I0[q * 64 + j]?) (I0 := I0) (l := l) (q := at_ + 64) (r := 1) (s := s) hw hO
    (poss_cln hw hc fun q hq j hj _ => by rw [chunk_at hj, hI0]) hlw hl (Nat.le_refl _) oqz (fun l hl => by have := hroom l hl; omega) (by rw [hI0]; exact Out.refl _ _ _) hil
    (fun I hI hout q hq j hj hn => by rw [chunk_at hj]; exact hout _ hn)
  have hlost : ∀ {s2 : DevS}, Lost (fun q c => ∀ j, j < 64 → ¬ (at_ + 64 ≤ q * 64 + j ∧ q * 64 + j < at_ + sz) → c[j]? = I0[q * 64 + j]?) s.ls.length s2 → WfD s2 ∧ s2.ls.length = s.ls.length ∧ Cln s2 ∧ s2.off = true ∧ Out (at_ + 64) (at_ + sz) (imgS s2) I0 := fun {s2} h => by
    obtain ⟨b1, b2, b3, b4, b5⟩ := h
    refine ⟨b2, b5, b3, b1, fun i hi => ?_⟩
    have hil2 := imgS_len b2
    rcases Nat.lt_or_ge i (s.ls.length * 64) with h1 | h1
    · have := poss_img b2 b4 (q := i / 64) oqz (i % 64) oqz (by rw [show i / 64 * 64 + i % 64 = i by omega]; exact hi)
      rw [chunk_at oqz, show i / 64 * 64 + i % 64 = i by omega] at this
      exact this
    · rw [List.getElem?_eq_none oqz, List.getElem?_eq_none oqz]
  have hW : writeS at_ sz l s = if (putF (at_ + 64) l s).1 ≠ 0 then putF (at_ + 64) l s
      else if (rangeP ((at_ + 64 : Nat) : Int) (needN l : Nat) (putF (at_ + 64) l s).2).1 ≠ 0 then rangeP ((at_ + 64 : Nat) : Int) (needN l : Nat) (putF (at_ + 64) l s).2
      else pubP (at_ : Nat) l.length (rangeP ((at_ + 64 : Nat) : Int) (needN l : Nat) (putF (at_ + 64) l s).2).2 := by
    unfold writeS
    rw [if_neg (by rw [hO]; decide), hwd, hI0, if_neg (by rw [h0]; simp), if_neg (by rw [hl]; decide), hnd, if_neg (by simp only [ne_eq, not_true, false_or]; omega), if_neg hne]
  rw [hW, g1]
  simp only []
  rcases g2 with ⟨a1, a2, a3, a4, a5, a6, a7, a8⟩ | ⟨a1, a2⟩
  · subst a1
    rw [if_neg (by simp)]
    have hrg : rangeP ((at_ + 64 : Nat) : Int) (needN l : Nat) s1 = lastS (at_ + 64) (needN l) s1 := by
      unfold rangeP
      rw [if_neg (by rw [a2]; decide), if_neg oqz, rdy_ok oqz oqz (by rw [a5]; omega), if_neg (by decide), Int.toNat_natCast, Int.toNat_natCast]
    obtain ⟨e2, s2, k1, k2⟩ := lastS_loss (p := at_ + 64) (m := needN l) a3 a2 a4 hl1 (by rw [a5]; omega) (fun q ln hq hln => by rw [a6 q hq] at hln; exact hc ln (List.mem_of_getElem? hln))
    have hrm2 : Room 1 s2 := rangeP_room (p := ((at_ + 64 : Nat) : Int)) (m := (needN l : Nat)) (by rw [hrg]; exact k1) a3 a7
    rw [hrg, k1]
    simp only []
    rw [a5] at k2
    rcases k2 with ⟨b1, b2, b3, b4, b5, b6⟩ | ⟨b1, b2⟩
    · subst b1
      rw [if_neg (by simp)]
      have hi2 : imgS s2 = wrI1 at_ I0 l := by rw [b6, a8, hI0]; rfl
      obtain ⟨e3, s3, c1, c2⟩ := pub_loss (X := fun q c => c = chunk q (wrI1 at_ I0 l) ∨ c = chunk q (wrI at_ I0 l)) (p := at_) (v := l.length) (s := s2) b3 b2
        (poss_cln b3 b4 fun q hq => .inl (by rw [hi2])) (fun q ln _ hln => b4 ln (List.mem_of_getElem? hln)) oqz (by rw [b5]; omega) hllt hrm2 (.inr (by rw [hi2]; rfl))
      refine ⟨e3, s3, c1, ?_⟩
      rw [b5] at c2
      rcases c2 with ⟨d1, d2, d3, d4, d5, d6⟩ | ⟨d1, d2, d3, d4, d5, d6⟩
      · exact ⟨d3, d5, d4, .inl ⟨d1, d2, by rw [d6, hi2, hI0]; rfl⟩⟩
      · refine ⟨d3, d6, d4, .inr ⟨d1, d2, ?_⟩⟩
        have hil3 := imgS_len d3
        have hI2l : (wrI at_ I0 l).length = s.ls.length * 64 := by unfold wrI; rw [spl_length (by rw [le_length]; omega), hI1l]
        have hoth : ∀ q, q ≠ at_ / 64 → chunk q (wrI at_ I0 l) = chunk q (wrI1 at_ I0 l) := fun q hq => by unfold wrI; exact chunk_spl (by rw [le_length]; omega) (by rw [le_length]; omega)
        have hq : ∀ q, q < s.ls.length → chunk q (imgS s3) = chunk q (wrI1 at_ I0 l) ∨ chunk q (imgS s3) = chunk q (wrI at_ I0 l) := fun q hq => poss_img d3 d5 (by rw [d6]; exact hq)
        rw [hI0]
        rcases hq (at_ / 64) oqz with h1 | h1
        · left
          have : imgS s3 = wrI1 at_ I0 l := img_ext (n := s.ls.length) (by rw [hil3, d6]) hI1l fun q hql => by
            by_cases e : q = at_ / 64
            · rw [e]; exact h1
            · rcases hq q hql with h2 | h2
              · exact h2
              · rw [h2, hoth q e]
          rw [this]; unfold wrI1; exact out_spl oqz (Nat.le_refl _) oqz
        · right
          exact img_ext (n := s.ls.length) (by rw [hil3, d6]) hI2l fun q hql => by
            by_cases e : q = at_ / 64
            · rw [e]; exact h1
            · rcases hq q hql with h2 | h2
              · rw [h2, hoth q e]
              · exact h2
    · subst b1
      rw [if_pos (by decide)]
      obtain ⟨c1, c2, c3, c4, c5⟩ := hlost b2
      exact ⟨5, s2, rfl, c1, c2, c3, .inr ⟨rfl, c4, .inl (by rw [hI0]; exact c5)⟩⟩
  · subst a1
    rw [if_pos (by decide)]
    obtain ⟨c1, c2, c3, c4, c5⟩ := hlost a2
    exact ⟨5, s1, rfl, c1, c2, c3, .inr ⟨rfl, c4, .inl (by rw [hI0]; exact c5)⟩⟩
end Go.Vl

namespace Go.Vl
open Go Go.Proofs
theorem flL_loss {X : Nat → List Nat → Prop} : ∀ (k q : Nat) (s : DevS), WfD s → s.off = false → Poss X s → q + k ≤ s.ls.length →
    ∃ e s2, flL k q s = (e, s2) ∧ ((e = 0 ∧ s2.off = false ∧ WfD s2 ∧ s2.ls = flsh k q s.ls) ∨ (e = 5 ∧ Lost X s.ls.length s2))
  | 0, q, s, hw, hO, hP, h => ⟨0, s, rfl, .inl ⟨rfl, hO, hw, (flsh_zero q s.ls).symm⟩⟩
  | k + 1, q, s, hw, hO, hP, h => by
    have hq : q < s.ls.length := by omega
    have hs : flushS (q * 64) s = { s with ls := s.ls.set q (flushL s.ls[q]) } := by
      unfold flushS; rw [show q * 64 / 64 = q by omega, onLine_at hq]
    have hwF := flushS_wf (p := q * 64) hw
    have hPF : Poss X (flushS (q * 64) s) := poss_sub hP fun j l' hl' => by
      rw [hs] at hl'
      by_cases e : q = j
      · subst e
        rw [List.getElem?_set_self hq] at hl'
        have := Option.some.inj hl'
        subst this
        exact ⟨_, List.getElem?_eq_getElem hq, fun σ h => h⟩
      · rw [List.getElem?_set_ne e] at hl'
        exact ⟨l', hl', fun σ h => h⟩
    have hlF : (flushS (q * 64) s).ls.length = s.ls.length := by rw [hs]; simp
    have hf1 : fl1 ((q * 64 : Nat) : Int) s = (doneE (flushS (q * 64) s), doneS (flushS (q * 64) s)) := by
      unfold fl1
      rw [hO, rdy_ok oqz oqz oqz, if_neg (by simp), Int.toNat_natCast]
    show ∃ e s2, (if (fl1 ((q * 64 : Nat) : Int) s).1 ≠ 0 then fl1 ((q * 64 : Nat) : Int) s else flL k (q + 1) (fl1 ((q * 64 : Nat) : Int) s).2) = (e, s2) ∧ _
    rw [hf1]
    rcases done_loss hwF hPF with ⟨h1, h2, h3⟩ | ⟨h1, h2⟩
    · simp only []
      rw [h1, if_neg (by decide)]
      obtain ⟨e, s2, g1, g2⟩ := flL_loss (X := X) k (q + 1) (doneS (flushS (q * 64) s)) (doneS_wf hwF) (by rw [h3, hs]; exact hO) (fun j l hl σ hσ => by rw [h2] at hl; exact hPF j l hl σ hσ) (by rw [h2, hlF]; omega)
      refine ⟨e, s2, g1, ?_⟩
      rcases g2 with ⟨a1, a2, a3, a4⟩ | ⟨a1, a2⟩
      · exact .inl ⟨a1, a2, a3, by rw [a4, h2, hs]; simp only []; rw [flsh_step hq]⟩
      · exact .inr ⟨a1, by rw [h2, hlF] at a2; exact a2⟩
    · simp only []
      rw [h1, if_pos (by decide)]
      exact ⟨5, _, rfl, .inr ⟨rfl, by rw [hlF] at h2; exact h2⟩⟩
/-- A line is flushed, up to its last content. -/
def Mkd (j : Nat) (s : DevS) : Prop := ∀ l, s.ls[j]? = some l → l.mark = (l.st.length : Int) - 1
theorem back_loss {X : Nat → List Nat → Prop} {p r : Nat} {b : List Nat} {s : DevS} (hw : WfD s) (hO : s.off = false) (hP : Poss X s) (hb : ∀ x ∈ b, x < 256) (h1 : 1 ≤ b.length) (hp : p + b.length ≤ s.ls.length * 64) (hr : Room (r + b.length) s)
    (hX : ∀ k j, 0 < k → k ≤ b.length → j < s.ls.length → X j (chunk j (spl (imgS s) p (b.take k)))) :
    ∃ e s2, backS (p, b) s = (e, s2) ∧ ((e = 0 ∧ s2.off = false ∧ WfD s2 ∧ Poss X s2 ∧ s2.ls.length = s.ls.length ∧ Room r s2 ∧ imgS s2 = spl (imgS s) p b ∧ (∀ j : Nat, (j + 1) * 64 ≤ p ∨ p + b.length ≤ j * 64 → s2.ls[j]? = s.ls[j]?) ∧ (∀ j : Nat, ¬ ((j + 1) * 64 ≤ p ∨ p + b.length ≤ j * 64) → Mkd j s2)) ∨ (e = 5 ∧ Lost X s.ls.length s2)) := by
  obtain ⟨e, s1, g1, g2⟩ := storeF_loss (X := X) b.length (p := p) (r := r) rfl hw hO hb hr hp hP (fun k j k0 k1 _ hj => hX k j k0 k1 hj)
  have hst : sto (p : Nat) b s = (e, s1) := by
    unfold sto; rw [hO, rdy_ok oqz oqz oqz, if_neg (by decide), Int.toNat_natCast]; exact g1
  unfold backS
  simp only []
  rw [hst]
  rcases g2 with ⟨a1, ⟨a2, a3, a4, a5, a6⟩, a7, a8⟩ | ⟨a1, a2⟩
  · subst a1
    rw [if_neg (by simp)]
    unfold flushX
    obtain ⟨e, s2, k1, k2⟩ := flL_loss (X := X) ((p + b.length - 1) / 64 - p / 64 + 1) (p / 64) s1 a3 a2 a4 (by rw [a5]; omega)
    refine ⟨e, s2, k1, ?_⟩
    rw [a5] at k2
    rcases k2 with ⟨b1, b2, b3, b4⟩ | k2
    · have hlen : s2.ls.length = s.ls.length := by rw [b4, flsh_len, a5]
      have hget : ∀ j l', s2.ls[j]? = some l' → ∃ l, s1.ls[j]? = some l ∧ l' = if p / 64 ≤ j ∧ j < p / 64 + ((p + b.length - 1) / 64 - p / 64 + 1) then flushL l else l := fun j l' hl => by
        rw [b4] at hl; exact flsh_get hl
      refine .inl ⟨b1, b2, b3, fun j l' hl σ hσ => ?_, hlen, ?_, ?_, fun j hj => ?_, fun j hj l' hl => ?_⟩
      · obtain ⟨l, e1, e2⟩ := hget j l' hl
        refine a4 j l e1 σ ?_
        subst e2; split at hσ
        · exact hσ
        · exact hσ
      · intro l' hl
        obtain ⟨j, hj, rfl⟩ := List.mem_iff_getElem.1 hl
        obtain ⟨l, e1, e2⟩ := hget j _ (List.getElem?_eq_getElem hj)
        have := a7 l (List.mem_of_getElem? e1)
        rw [e2]; split
        · exact this
        · exact this
      · rw [← a8]; unfold imgS; rw [b4]
        exact img_seen (flsh_seen _ _ _)
      · rw [← a6 j hj, b4]
        cases e : (flsh ((p + b.length - 1) / 64 - p / 64 + 1) (p / 64) s1.ls)[j]? with
        | none => rw [List.getElem?_eq_none]; rw [List.getElem?_eq_none_iff, flsh_len] at e; exact e
        | some l' =>
          obtain ⟨l, e1, e2⟩ := flsh_get e
          rw [if_neg oqz] at e2
          rw [e1, e2]
      · obtain ⟨l, e1, e2⟩ := hget j l' hl
        rw [if_pos oqz] at e2
        rw [e2]; rfl
    · exact .inr k2
  · subst a1
    rw [if_pos (show (5 : Int) ≠ 0 by decide)]
    exact ⟨5, s1, rfl, .inr ⟨rfl, a2⟩⟩
/-! ### The bytes of extents -/
def InX (L : List (Nat × List Nat)) (i : Nat) : Prop := ∃ x ∈ L, x.1 ≤ i ∧ i < x.1 + x.2.length
/-- What a line may hold: outside the extents, what the image has. -/
def XU (L : List (Nat × List Nat)) (I : List Nat) (q : Nat) (c : List Nat) : Prop := ∀ j, j < 64 → ¬ InX L (q * 64 + j) → c[j]? = I[q * 64 + j]?
/-- Outside the extents all is as the image has it. -/
structure AS (L : List (Nat × List Nat)) (I : List Nat) (s : DevS) : Prop where
  wf : WfD s
  len : I.length = s.ls.length * 64
  poss : Poss (XU L I) s
  one : ∀ (q : Nat) (l : LineS), (∀ i, InX L i → i / 64 ≠ q) → s.ls[q]? = some l → l.st.length = 1
theorem AS.img {L : List (Nat × List Nat)} {I : List Nat} {s : DevS} (h : AS L I s) {i : Nat} (hi : ¬ InX L i) : (imgS s)[i]? = I[i]? := by
  have hil := imgS_len h.wf
  have hl := h.len
  rcases Nat.lt_or_ge i (s.ls.length * 64) with h1 | h1
  · have := poss_img h.wf h.poss (q := i / 64) oqz (i % 64) oqz (by rw [show i / 64 * 64 + i % 64 = i by omega]; exact hi)
    rw [chunk_at oqz, show i / 64 * 64 + i % 64 = i by omega] at this
    exact this
  · rw [List.getElem?_eq_none oqz, List.getElem?_eq_none oqz]
theorem AS.sub {L : List (Nat × List Nat)} {I : List Nat} {s : DevS} (h : AS L I s) {p m : Nat} (hd : ∀ i, p ≤ i → i < p + m → ¬ InX L i) : ((imgS s).drop p).take m = (I.drop p).take m := by
  apply List.ext_getElem?
  intro i
  rw [List.getElem?_take, List.getElem?_take]
  split
  · rw [List.getElem?_drop, List.getElem?_drop]; exact h.img (hd _ oqz oqz)
  · rfl
theorem as_lost {L : List (Nat × List Nat)} {I : List Nat} {n : Nat} {s : DevS} (h : Lost (XU L I) n s) (hI : I.length = n * 64) : AS L I s := by
  obtain ⟨_, h2, h3, h4, h5⟩ := h
  exact ⟨h2, by rw [h5]; exact hI, h4, fun q l _ hl => h3 l (List.mem_of_getElem? hl)⟩
theorem as_cln {L : List (Nat × List Nat)} {I : List Nat} {s : DevS} (hw : WfD s) (hc : Cln s) (hI : imgS s = I) : AS L I s :=
  ⟨hw, by rw [← hI]; exact imgS_len hw, poss_cln hw hc fun q hq j hj _ => by rw [chunk_at hj, hI], fun q l _ hl => hc l (List.mem_of_getElem? hl)⟩
theorem xu_spl {L : List (Nat × List Nat)} {I : List Nat} {s : DevS} (h : AS L I s) {p : Nat} {b : List Nat} (hp : p + b.length ≤ s.ls.length * 64) (hin : ∀ i, p ≤ i → i < p + b.length → InX L i) : ∀ k j, 0 < k → k ≤ b.length → j < s.ls.length → XU L I j (chunk j (spl (imgS s) p (b.take k))) := fun k j _ k1 hj i hi hn => by
  have hil := imgS_len h.wf
  have hkl : (b.take k).length = k := by rw [List.length_take]; omega
  rw [chunk_at hi, spl_at oqz, if_neg (fun hc => hn (hin _ hc.1 oqz))]
  exact h.img hn
/-- Some records are back. -/
structure Got (D : List (Nat × List Nat)) (I : List Nat) (s : DevS) : Prop where
  img : ∀ i, InX D i → (imgS s)[i]? = I[i]?
  mkd : ∀ i, InX D i → Mkd (i / 64) s
theorem backF_loss {L : List (Nat × List Nat)} {I : List Nat} : ∀ {l D : List (Nat × List Nat)} {r : Nat} {s : DevS}, AS L I s → s.off = false → (∀ x ∈ l, x ∈ L ∧ 1 ≤ x.2.length ∧ x.1 + x.2.length ≤ s.ls.length * 64 ∧ (∀ b ∈ x.2, b < 256) ∧ x.2 = (I.drop x.1).take x.2.length) → Room (r + sumL l) s → Got D I s →
    ∃ e s2, backF l s = (e, s2) ∧ ((e = 0 ∧ s2.off = false ∧ AS L I s2 ∧ s2.ls.length = s.ls.length ∧ Room r s2 ∧ Got (l ++ D) I s2) ∨ (e = 5 ∧ Lost (XU L I) s.ls.length s2))
  | [], D, r, s, hA, hO, _, hr, hG => ⟨0, s, rfl, .inl ⟨rfl, hO, hA, rfl, fun l hl => by have := hr l hl; omega, hG⟩⟩
  | x :: l, D, r, s, hA, hO, hl, hr, hG => by
    obtain ⟨m1, m2, m3, m4, m5⟩ := hl x (by simp)
    rw [sumL_cons] at hr
    have hil := imgS_len hA.wf
    have hIl := hA.len
    have hin : ∀ i, x.1 ≤ i → i < x.1 + x.2.length → InX L i := fun i h1 h2 => ⟨x, m1, h1, h2⟩
    obtain ⟨e, s1, g1, g2⟩ := back_loss (X := XU L I) (r := r + sumL l) hA.wf hO hA.poss m4 m2 m3 (fun l hl => by have := hr l hl; omega) (xu_spl hA m3 hin)
    rcases g2 with ⟨a1, a2, a3, a4, a5, a6, a7, a8, a9⟩ | ⟨a1, a2⟩
    · subst a1
      rw [backF_o (x := x) g1]
      have hA1 : AS L I s1 := ⟨a3, by rw [a5]; exact hIl, a4, fun q ln hq hln => by
        by_cases hj : (q + 1) * 64 ≤ x.1 ∨ x.1 + x.2.length ≤ q * 64
        · rw [a8 q hj] at hln; exact hA.one q ln hq hln
        · exact absurd (show max x.1 (q * 64) / 64 = q by omega) (hq (max x.1 (q * 64)) ⟨x, m1, by omega, by omega⟩)⟩
      have hG1 : Got (x :: D) I s1 := by
        refine ⟨fun i hi => ?_, fun i hi => ?_⟩
        · rw [a7, spl_at oqz]
          by_cases hc : x.1 ≤ i ∧ i < x.1 + x.2.length
          · rw [if_pos hc]
            have : x.2[i - x.1]? = ((I.drop x.1).take x.2.length)[i - x.1]? := by rw [← m5]
            rw [this, List.getElem?_take, if_pos oqz, List.getElem?_drop, show x.1 + (i - x.1) = i by omega]
          · rw [if_neg hc]
            obtain ⟨y, hy, y1, y2⟩ := hi
            rcases List.mem_cons.1 hy with rfl | hy
            · exact absurd ⟨y1, y2⟩ hc
            · exact hG.img i ⟨y, hy, y1, y2⟩
        · by_cases hj : (i / 64 + 1) * 64 ≤ x.1 ∨ x.1 + x.2.length ≤ i / 64 * 64
          · obtain ⟨y, hy, y1, y2⟩ := hi
            rcases List.mem_cons.1 hy with rfl | hy
            · omega
            · intro ln hln
              rw [a8 _ hj] at hln
              exact hG.mkd i ⟨y, hy, y1, y2⟩ ln hln
          · exact a9 _ hj
      obtain ⟨e, s2, k1, k2⟩ := backF_loss (l := l) (D := x :: D) (r := r) hA1 a2 (fun y hy => by rw [a5]; exact hl y (List.mem_cons_of_mem _ hy)) a6 hG1
      refine ⟨e, s2, k1, ?_⟩
      rw [a5] at k2
      rcases k2 with ⟨b1, b2, b3, b4, b5, b6⟩ | k2
      · refine .inl ⟨b1, b2, b3, b4, b5, ⟨fun i hi => b6.img i ?_, fun i hi => b6.mkd i ?_⟩⟩ <;>
        · obtain ⟨y, hy, h12⟩ := hi
          refine ⟨y, ?_, h12⟩
          simp only [List.mem_append, List.mem_cons] at hy ⊢
          rcases hy with (h | h) | h
          · exact .inr (.inl h)
          · exact .inl h
          · exact .inr (.inr h)
      · exact .inr k2
    · subst a1
      exact ⟨5, s1, backF_e (x := x) g1 (by decide), .inr ⟨rfl, a2⟩⟩
theorem roll_loss {at_ sz : Nat} {L : List (Nat × List Nat)} {I : List Nat} {s : DevS} (hA : AS L I s) (hO : s.off = false) (hlw : LogW (s.ls.length * 64) at_ sz) (hr : Room (sumL L + 1) s) (hne : L ≠ []) (hrec : recordsS at_ sz s = (L, 0))
    (hL : ∀ x ∈ L, mayX (s.ls.length * 64) at_ sz ((x.1 : Int), ((x.2.length : Nat) : Int)) = true ∧ (∀ b ∈ x.2, b < 256) ∧ x.2 = (I.drop x.1).take x.2.length) :
    ∃ k e s2, rollS at_ sz s = ((k, e), s2) ∧ s2.ls.length = s.ls.length ∧ ((e = 0 ∧ k = L.length ∧ s2.off = false ∧ WfD s2 ∧ Cln s2 ∧ imgS s2 = spl I at_ (le 8 0)) ∨ (e = 5 ∧ s2.off = true ∧ ((AS L I s2 ∧ Cln s2) ∨ (WfD s2 ∧ Cln s2 ∧ imgS s2 = spl I at_ (le 8 0))))) := by
  have htop := hA.wf.top
  have ht := hlw.top; have hsz := hlw.s; have ham := hlw.am
  have hIl := hA.len
  obtain ⟨e, s1, g1, g2⟩ := backF_loss (l := L.reverse) (D := []) (r := 1) hA hO (fun x hx => by
    have hx := List.mem_reverse.1 hx
    obtain ⟨h1, h2, h3⟩ := hL x hx
    obtain ⟨p, m, hz, y1, y2, y3, y4⟩ := may_nat h1
    simp only [Prod.mk.injEq, Int.ofNat_inj] at hz
    exact ⟨hx, by omega, by omega, h2, h3⟩) (fun l hl => by have := hr l hl; rw [sumL_rev]; omega) ⟨fun i hi => by obtain ⟨x, hx, _⟩ := hi; simp at hx, fun i hi => by obtain ⟨x, hx, _⟩ := hi; simp at hx⟩
  rcases g2 with ⟨a1, a2, a3, a4, a5, a6⟩ | ⟨a1, a2⟩
  · subst a1
    rw [List.append_nil] at a6
    have hinr : ∀ i, InX L i ↔ InX L.reverse i := fun i => by
      constructor
      · rintro ⟨x, hx, h⟩; exact ⟨x, List.mem_reverse.2 hx, h⟩
      · rintro ⟨x, hx, h⟩; exact ⟨x, List.mem_reverse.1 hx, h⟩
    have hi1 : imgS s1 = I := by
      apply List.ext_getElem?
      intro i
      by_cases hi : InX L i
      · exact a6.img i ((hinr i).1 hi)
      · exact a3.img hi
    -- the fence
    have hwf := fence_wf a3.wf
    have hPf : Poss (XU L I) (fenceS s1) := poss_sub a3.poss fun q l' hl' => by
      obtain ⟨l, h1, rfl⟩ := fence_get hl'; exact ⟨l, h1, fence_mem⟩
    have hfe : fe s1 = (doneE (fenceS s1), doneS (fenceS s1)) := by unfold fe; rw [if_neg (by rw [a2]; decide)]
    have hfl : (fenceS s1).ls.length = s.ls.length := by simp [fenceS, a4]
    rcases done_loss hwf hPf with ⟨b1, b2, b3⟩ | ⟨b1, b2⟩
    · have hfe2 : fe s1 = (0, doneS (fenceS s1)) := by rw [hfe, b1]
      obtain ⟨s2, hs2⟩ : ∃ s2, doneS (fenceS s1) = s2 := ⟨_, rfl⟩
      have hw2 : WfD s2 := hs2 ▸ doneS_wf hwf
      rw [hs2] at hfe2 b2 b3
      have hl2 : s2.ls.length = s.ls.length := by rw [b2, hfl]
      have hoff2 : s2.off = false := by rw [b3]; exact a2
      have hi2 : imgS s2 = I := by
        rw [← hi1]; unfold imgS; rw [b2]
        show img (s1.ls.map fenceL) = _
        refine img_seen ?_
        rw [List.map_map]
        exact List.map_congr_left fun l hl => seen_fence (a3.wf.line l hl)
      have hc2 : Cln s2 := fun l' hl' => by
        rw [b2] at hl'
        obtain ⟨q, hq, rfl⟩ := List.mem_iff_getElem.1 hl'
        obtain ⟨l, e1, e2⟩ := fence_get (show (s1.ls.map fenceL)[q]? = some _ from List.getElem?_eq_getElem hq)
        have hwl := a3.wf.line l (List.mem_of_getElem? e1)
        have hpl := List.length_pos_iff.2 hwl.ne
        rw [e2]
        by_cases hU : ∀ i, InX L i → i / 64 ≠ q
        · have h1 := a3.one q l hU e1
          unfold fenceL; split
          · have := hwl.hi; simp only [List.length_drop]; omega
          · exact h1
        · have : ∃ i, InX L i ∧ i / 64 = q := by
            apply Classical.byContradiction
            intro hn
            exact hU fun i hi he => hn ⟨i, hi, he⟩
          obtain ⟨i, hi, rfl⟩ := this
          have h1 := a6.mkd i ((hinr i).1 hi) l e1
          unfold fenceL
          rw [if_pos oqz]
          simp only [List.length_drop]; omega
      have hr2 : Room 1 s2 := fe_room hfe2 a3.wf a5
      obtain ⟨e3, s3, c1, c2⟩ := pub_loss (X := fun q c => c = chunk q I ∨ c = chunk q (spl I at_ (le 8 0))) (p := at_) (v := 0) (s := s2) hw2 hoff2
        (poss_cln hw2 hc2 fun q hq => .inl (by rw [hi2])) (fun q ln _ hln => hc2 ln (List.mem_of_getElem? hln)) oqz (by rw [hl2]; omega) (by decide) hr2 (.inr (by rw [hi2]))
      rw [hl2] at c2
      rcases c2 with ⟨d1, d2, d3, d4, d5, d6⟩ | ⟨d1, d2, d3, d4, d5, d6⟩
      · subst d1
        exact ⟨_, _, s3, roll_o hrec hne g1 hfe2 c1, d5, .inl ⟨rfl, rfl, d2, d3, d4, by rw [d6, hi2]⟩⟩
      · subst d1
        refine ⟨_, _, s3, roll_p hrec hne g1 hfe2 c1 (by decide), d6, .inr ⟨rfl, d2, ?_⟩⟩
        have hil3 := imgS_len d3
        have hJl : (spl I at_ (le 8 0)).length = s.ls.length * 64 := by rw [spl_length (by rw [le_length]; omega), hIl]
        have hoth : ∀ q, q ≠ at_ / 64 → chunk q (spl I at_ (le 8 0)) = chunk q I := fun q hq => chunk_spl (by rw [le_length]; omega) (by rw [le_length]; omega)
        have hq : ∀ q, q < s.ls.length → chunk q (imgS s3) = chunk q I ∨ chunk q (imgS s3) = chunk q (spl I at_ (le 8 0)) := fun q hq => poss_img d3 d5 (by rw [d6]; exact hq)
        rcases hq (at_ / 64) oqz with h1 | h1
        · exact .inl ⟨as_cln d3 d4 (img_ext (n := s.ls.length) (by rw [hil3, d6]) hIl fun q hql => by
            by_cases e : q = at_ / 64
            · rw [e]; exact h1
            · rcases hq q hql with h2 | h2
              · exact h2
              · rw [h2, hoth q e]), d4⟩
        · exact .inr ⟨d3, d4, img_ext (n := s.ls.length) (by rw [hil3, d6]) hJl fun q hql => by
            by_cases e : q = at_ / 64
            · rw [e]; exact h1
            · rcases hq q hql with h2 | h2
              · rw [h2, hoth q e]
              · exact h2⟩
    · rw [hfl] at b2
      refine ⟨_, _, _, roll_f hrec hne g1 (show fe s1 = (5, doneS (fenceS s1)) by rw [hfe, b1]) (by decide), b2.2.2.2.2, .inr ⟨rfl, b2.1, .inl ⟨as_lost b2 hIl, b2.2.2.1⟩⟩⟩
  · subst a1
    exact ⟨_, _, s1, roll_b hrec hne g1 (by decide), a2.2.2.2.2, .inr ⟨rfl, a2.1, .inl ⟨as_lost a2 hIl, a2.2.2.1⟩⟩⟩
end Go.Vl

namespace Go.Vl
open Go Go.Proofs
/-- A book beside a device on which a loss of power is planned. -/
def armP (after : Int) (keep : List Int) (Q : PlS) : PlS := { Q with s := { Q.s with arms := [(after, keep)], cnt := Q.s.ops } }
/-- What one step does to both. -/
structure ArmStep (after : Int) (keep : List Int) (P' : Bool × PlS) (Q : PlS) (Q' : Bool × PlS) : Prop where
  ok : Q'.1 = true
  ops : P'.2.s.ops = Q'.2.s.ops
  near : Q'.2.s.ops = Q.s.ops ∨ Q'.2.s.ops = Q.s.ops + 1
  on : Q'.2.s.ops ≠ after → P' = (true, armP after keep Q'.2)
  gone : Q'.2.s.ops = after → P'.1 = false ∧ P'.2.s.off = true ∧ P'.2.s.arms = [] ∧ P'.2.s.ls = (goesS keep Q'.2.s).ls
theorem WfP.mono {r r' : Nat} {P : PlS} (h : WfP r P) (hr : r' ≤ r) : WfP r' P := ⟨h.pos, h.top, h.ls, h.seen, h.held, h.last, h.sure, fun l hl => by have := h.room l hl; omega, fun l hl => by have := h.hroom l hl; omega⟩
end Go.Vl

namespace Go.Vl
open Go Go.Proofs
theorem spl_drop_ge {α : Type} {l b : List α} {p k : Nat} (h : p + b.length ≤ l.length) (hk : p + b.length ≤ k) : (spl l p b).drop k = l.drop k := by
  apply List.ext_getElem?
  intro i
  rw [List.getElem?_drop, List.getElem?_drop, spl_at h, if_neg oqz]
end Go.Vl

namespace Go.Vl
open Go Go.Proofs
def rise (n : Nat) : List Nat := (List.range n).map fun i => i % 256
theorem rise_zero : rise 0 = [] := rfl
theorem rise_len (n : Nat) : (rise n).length = n := by simp [rise]
theorem rise_succ (n : Nat) : rise (n + 1) = rise n ++ [n % 256] := by simp [rise, List.range_succ]
theorem rise_b (n : Nat) : ∀ x ∈ rise n, x < 256 := fun x hx => by
  simp only [rise, List.mem_map] at hx; obtain ⟨i, _, rfl⟩ := hx; omega
theorem rise_at {n i : Nat} (h : i < n) : (rise n)[i]? = some (i % 256) := by simp [rise, h]
/-- The image: bytes that rise, eight zeros at 128; so far k of them. -/
def mdK (k : Nat) : List Nat := spl (rise 1024) 128 (List.replicate k 0)
def mdI : List Nat := mdK 8
theorem mdK_len {k : Nat} (h : k ≤ 8) : (mdK k).length = 1024 := by unfold mdK; rw [spl_length (by rw [List.length_replicate, rise_len]; omega), rise_len]
theorem mdI_len : mdI.length = 1024 := mdK_len (by decide)
theorem mdK_zero : mdK 0 = rise 1024 := by unfold mdK; rw [List.replicate_zero, spl_nil]
theorem mdK_succ {k : Nat} (h : k < 8) : (mdK k).set (128 + k) 0 = mdK (k + 1) := by
  apply List.ext_getElem?
  intro j
  have h1 := mdK_len (show k ≤ 8 by omega)
  unfold mdK at *
  rw [List.getElem?_set, h1, spl_at (by rw [List.length_replicate, rise_len]; omega), spl_at (by rw [List.length_replicate, rise_len]; omega)]
  simp only [List.length_replicate, List.getElem?_replicate]
  by_cases hj : 128 + k = j
  · subst hj
    rw [if_pos rfl, if_pos oqz, if_pos oqz, if_pos oqz]
  · rw [if_neg hj]
    by_cases h2 : 128 ≤ j ∧ j < 128 + k
    · rw [if_pos h2, if_pos oqz, if_pos oqz, if_pos oqz]
    · rw [if_neg h2, if_neg oqz]
theorem mdI_b : ∀ x ∈ mdI, x < 256 := fun x hx => by
  unfold mdI mdK spl at hx
  simp only [List.mem_append] at hx
  rcases hx with (hx | hx) | hx
  · exact rise_b _ x (List.mem_of_mem_take hx)
  · rw [(List.mem_replicate.1 hx).2]; decide
  · exact rise_b _ x (List.mem_of_mem_drop hx)
theorem mdK8_b : ∀ x ∈ mdK 8, x < 256 := mdI_b
theorem mdI_at {i : Nat} (h : i < 1024) (h2 : i < 128 ∨ 136 ≤ i) : mdI[i]? = some (i % 256) := by
  unfold mdI mdK
  rw [spl_at (by rw [List.length_replicate, rise_len]; decide), List.length_replicate, if_neg oqz, rise_at h]
theorem mdI_word : (mdI.drop 128).take 8 = List.replicate 8 0 := by
  have := spl_mid (l := rise 1024) (b := List.replicate 8 0) (p := 128) (by rw [List.length_replicate, rise_len]; decide)
  rw [List.length_replicate] at this; exact this
def mds : DevS := fromS 16 mdI
theorem mds_eq : fromS 16 (mdK 8) = mds := rfl
theorem mds_wf : WfD mds := fromS_wf (by decide) (by decide) mdI_b
theorem mds_len : mds.ls.length = 16 := by simp [mds, fromS, newS]
theorem mds_live : Live mds := ⟨rfl, rfl⟩
theorem mds_img : imgS mds = mdI := img_from mdI_b mdI_len
theorem mds_cln : Cln mds := fun l hl => by
  unfold mds fromS at hl
  simp only [List.mem_mapIdx] at hl
  obtain ⟨i, _, rfl⟩ := hl
  rfl
theorem room_cln {s : DevS} (h : Cln s) {k : Nat} (hk : k ≤ 2199023255551) : Room k s := fun l hl => by rw [h l hl]; omega
theorem mdw (sz : Nat) (h1 : 128 ≤ sz) (h2 : sz % 64 = 0) (h3 : sz ≤ 896) : LogW (mds.ls.length * 64) 128 sz := by rw [mds_len]; exact ⟨by decide, by decide, h1, h2, by omega⟩
/-- An image with a log of these records. -/
def LogI (sz : Nat) (l : List (Int × Int)) (I : List Nat) : Prop := nm ((I.drop 128).take 8) = l.length ∧ (I.drop 192).take (needN l) = recsB mdI l ∧ I.length = 1024 ∧ Out 128 (128 + sz) I mdI
theorem wr_log {sz : Nat} {l : List (Int × Int)} (hsz : sz ≤ 896) (h128 : 128 ≤ sz) (hl : l.all (mayX 1024 128 sz) = true) (hN : needN l ≤ sz - 64) : LogI sz l (wrI 128 mdI l) := by
  have hml := mdI_len
  have hrl := recsB_len hml hl
  have h1l : (wrI1 128 mdI l).length = 1024 := by unfold wrI1; rw [spl_length oqz, hml]
  have h2l : (wrI 128 mdI l).length = 1024 := by unfold wrI; rw [spl_length (by rw [le_length]; omega), h1l]
  have hll : l.length < 18446744073709551616 := Nat.lt_of_le_of_lt (needN_ge l) oqz
  refine ⟨?_, ?_, h2l, ?_⟩
  · have := spl_mid (l := wrI1 128 mdI l) (b := le 8 l.length) (p := 128) (by rw [le_length]; omega)
    rw [le_length] at this
    unfold wrI; rw [this, nm_le]
    exact Nat.mod_eq_of_lt (by have : (256 : Nat) ^ 8 = 18446744073709551616 := by decide
                               omega)
  · unfold wrI
    rw [spl_drop_ge (by rw [le_length]; omega) (by rw [le_length]; omega)]
    have := spl_mid (l := mdI) (b := recsB mdI l) (p := 192) oqz
    rw [hrl] at this; exact this
  · have h1l2 : (spl mdI (128 + 64) (recsB mdI l)).length = 1024 := h1l
    unfold wrI wrI1
    exact (out_spl (by rw [le_length]; omega) (Nat.le_refl _) (by rw [le_length]; omega)).trans (out_spl oqz oqz oqz)
/-- A Write on the device that was made. -/
theorem wrote {sz : Nat} {l : List (Int × Int)} (h1 : 128 ≤ sz) (h2 : sz % 64 = 0) (h3 : sz ≤ 896) (hl : l.all (mayX 1024 128 sz) = true) (hN : needN l ≤ sz - 64) :
    ∃ s1, writeS 128 sz l mds = (0, s1) ∧ Live s1 ∧ WfD s1 ∧ Cln s1 ∧ s1.ls.length = 16 ∧ LogI sz l (imgS s1) ∧ (l = [] → s1 = mds) := by
  have hlw := mdw sz h1 h2 h3
  have h0 : nm (((imgS mds).drop 128).take 8) = 0 := by rw [mds_img, mdI_word]; decide
  by_cases hne : l = []
  · subst hne
    refine ⟨mds, ?_, mds_live, mds_wf, mds_cln, mds_len, ⟨h0, by simp [needN, recsB], by rw [mds_img]; exact mdI_len, by rw [mds_img]; exact Out.refl _ _ _⟩, fun _ => rfl⟩
    unfold writeS
    rw [if_neg (by decide), word_in rfl (by decide) (by rw [mds_len]; decide), h0, if_neg (by simp), if_neg (by simp)]
    rw [if_neg (by show ¬ ((needF [] 0).2 ≠ 0 ∨ _ < (needF [] 0).1); simp [needF]), if_pos rfl]
  · obtain ⟨e, s1, g1, g2, g3, g4, g5⟩ := write_loss (l := l) mds_wf rfl mds_cln hlw (by rw [mds_len]; exact hl) hne hN h0 (room_cln mds_cln oqz)
    have hphi := writeS_phi 128 sz l mds
    rw [g1, live_phi.1 mds_live] at hphi
    have hL : Live s1 := live_phi.2 (by simp only at hphi; omega)
    rcases g5 with ⟨a1, a2, a3⟩ | ⟨_, a2, _⟩
    · subst a1
      exact ⟨s1, g1, hL, g2, g4, by rw [g3, mds_len], by rw [a3, mds_img]; exact wr_log h3 h1 hl hN, fun h => absurd h hne⟩
    · rw [hL.off] at a2; exact absurd a2 (by decide)
theorem log_records {sz : Nat} {l : List (Int × Int)} {s : DevS} (h1 : 128 ≤ sz) (h2 : sz % 64 = 0) (h3 : sz ≤ 896) (hl : l.all (mayX 1024 128 sz) = true) (hN : needN l ≤ sz - 64) (hw : WfD s) (hO : s.off = false) (hlen : s.ls.length = 16)
    (hi : ((imgS s).drop 128).take 8 = ((imgS s).drop 128).take 8) (hh : nm (((imgS s).drop 128).take 8) = l.length) (hr : ((imgS s).drop 192).take (needN l) = recsB mdI l) : recordsS 128 sz s = (oldsL mdI l, 0) :=
  records_of hw hO (by rw [hlen]; exact ⟨by decide, by decide, h1, h2, by omega⟩) (by rw [hlen]; exact mdI_len) (by rw [hlen]; exact hl) hN hh hr
end Go.Vl

namespace Go.Vl
open Go Go.Proofs
attribute [local irreducible] crk crL crc Sl pt ro Dev imgS recS readS recsF rdW rdO rkT Parts rvl recordsS mdI mdK rise
theorem within11_c {A : SP} {i n : Int} (hn : 0 < n ∧ n ≤ 9223372036854775807 := by omega) :
    Fn Tryz.prog 17 #[.int .i64 i, .int .i64 n] (A) (fun r B => r = .int .i64 (i % n) ∧ A = B) := by
  refine fn_enterW (args := [.int .i64 i, .int .i64 n]) Tryz.func17 rfl Tryz.ntmps17 (by simp) ?_
  have hb := tmod_lt' (a := i) hn.1
  refine sr ?_; refine tla ?_; refine nq ?_; refine sr ?_; refine tlm ?_; refine tlm ?_; refine tv (o_rem (a := i) (b := n) rfl rfl oqz) ?_; refine tla ?_; refine nq ?_; refine tc_seq ?_; refine sr ?_; refine tlm ?_; refine tv (o_lss rfl rfl) ?_; refine nq ?_; refine tc_cond rfl (fun h => ?_) (fun h => ?_)
  · try simp only [lv1, lv2, lv3, lv4, lv5, lv6, Bool.not_true, Bool.not_false] at h
    refine tc_reg ?_; refine tlm ?_; refine tlm ?_; refine tv (o_addI (a := i.tmod n) (b := n) rfl rfl oqz) ?_; refine tla ?_; refine nq ?_; refine sr ?_; refine tlm ?_; refine tla ?_; refine nq ?_; refine tc_ret ?_; exact ⟨.int .i64 (i.tmod n + n), A, res1 rfl rfl, fun _ _ h => h, by rw [within_neg hn.1 h], rfl⟩
  · try simp only [lv1, lv2, lv3, lv4, lv5, lv6, Bool.not_true, Bool.not_false] at h
    refine tc_skip ?_; refine q_then_n ?_; refine sr ?_; refine tlm ?_; refine tla ?_; refine nq ?_; refine tc_ret ?_; exact ⟨.int .i64 (i.tmod n), A, res1 rfl rfl, fun _ _ h => h, by rw [within_pos hn.1 h], rfl⟩
set_option maxRecDepth 20000 in
set_option maxHeartbeats 2000000 in
theorem made_c {A : SP} {sz : Nat} (h1 : 128 ≤ sz := by omega) (h2 : sz % 64 = 0 := by omega) (h3 : sz ≤ 896 := by omega) :
    Fn Tryz.prog 22 #[.int .i64 (sz : Nat)] (A) (fun r B => ∃ d bl, r = .tuple #[.pointer (some ⟨d, 0, none⟩), .pointer (some ⟨bl, 0, none⟩), .bool true] ∧ B = A * Dev d mds * pt bl (cl (lcs11 d 128 sz) 94)) := by
  refine fn_enterW (args := [.int .i64 (sz : Nat)]) Tryz.func22 rfl Tryz.ntmps22 (by simp) ?_; refine sr ?_; refine tla ?_; refine tla ?_; refine tla ?_; refine nq ?_; refine sr ?_; refine tla ?_; refine nq ?_; refine tc_seq ?_; refine sr ?_; refine tla ?_; refine nq ?_; refine tc_block ?_; refine tc_pre (A' := A * Sl 1 (.slice none 0 0) 0 (bys (rise 0))) (fun _ _ h => by rw [rise_zero]; exact sl_nil h) ?_; refine tc_loop (fun kk ρ BB => ∃ (i : Nat) (a5 : Option Addr) (c5 : Nat), (i ≤ 1024) ∧ (i ≤ c5) ∧ kk = 1024 - i ∧ ρ 5 = .slice a5 i c5 ∧ ρ 6 = .int .i64 (i : Nat) ∧ ρ 0 = .int .i64 (sz : Nat) ∧ Dr BB (A * Sl 1 (.slice a5 i c5) i (bys (rise i)))) (m := 1024 - (0)) ?_ ?_
  · exact ⟨0, none, 0, by omega, by omega, rfl, rfl, rfl, rfl, drqz⟩
  · intro k ρ B hI
    obtain ⟨i, a5, c5, hp0, hp1, hkk1, hE5, hE6, hE0, hBA⟩ := hI
    refine tc_pre hBA.sat ?_
    clear hBA
    refine tc_env (d := 5) hE5 ?_; refine tc_env (d := 6) hE6 ?_; refine tc_env (d := 0) hE0 ?_
    clear hE5 hE6 hE0
    refine tc_seq ?_; refine sr ?_; refine tlm ?_; refine tv (o_lss rfl rfl) ?_; refine nq ?_; refine tc_cond rfl (fun h => ?_) (fun h => ?_)
    · have hi : i < 1024 := by first | omega | (simp at h; omega)
      refine tc_skip ?_; refine q_then_n ?_; refine tc_seq ?_; refine tc_block ?_; refine tc_reg ?_; refine tlm ?_; refine tlm ?_; refine tv (by first | exact o_conv8 Tryz.underlying3 Tryz.underlying5 rfl | exact o_conv Tryz.underlying3 Tryz.underlying5 rfl) ?_; refine tl_env (d := 18) (v := .int .u8 ((i % 256 : Nat) : Int)) (by first | rfl | (show Value.int .u8 _ = _; congr 1; first | omega | (simp [IntKind.wrap, IntKind.bits, IntKind.signed]; omega))) ?_; refine tl_x rfl (o_buildSliceL (k := 1) (vs := bys [i % 256]) (l := bys [i % 256]) Tryz.underlying22 sz5 z5 rfl rfl (by decide) (by decide) (by intro v hv; simp only [bys, b8, List.map_cons, List.map_nil, List.mem_cons, List.not_mem_nil, or_false] at hv; rcases hv with rfl; rfl) rfl) ?_; rintro _ _ ⟨b19, rfl, rfl⟩; refine tl_x rfl (o_apB Tryz.underlying22 Tryz.underlying22 sz5 by5 z5 rfl (by decide) (by decide) rfl rfl rfl ctqz rfl rfl oqz (show _ = bys (rise i ++ [i % 256]) by rw [← bys_append])) ?_; rintro _ _ ⟨a20, c20, rfl, hc20, rfl⟩; refine tla ?_; refine tl_nil ?_; refine q_block_n (q_then_n ?_); refine tc_reg ?_; refine tlm ?_; refine tv adqz ?_; refine tla ?_; refine nq ?_; exact ⟨_, by omega, i + 1, _, _, by omega, hc20, rfl, rfl, rfl, rfl, by rw [rise_succ]; repeat (first | with_reducible exact dr_refl | apply dr_keep | apply dr_drop)⟩
    · obtain rfl : i = 1024 := by first | omega | (simp at h; omega)
      refine tc_exit ?_; refine q_then_e (q_then_e (q_block_x (q_then_n ?_))); refine tc_seq ?_; refine sr ?_; refine tla ?_; refine nq ?_; refine tc_block ?_; refine tc_loop (fun kk ρ BB => ∃ (k : Nat), (k ≤ 8) ∧ kk = 8 - k ∧ ρ 7 = .int .i64 ((128 + k : Nat) : Int) ∧ ρ 0 = .int .i64 (sz : Nat) ∧ ρ 5 = .slice a5 1024 c5 ∧ Dr BB (A * Sl 1 (.slice a5 1024 c5) 1024 (bys (mdK k)))) (m := 8 - (0)) ?_ ?_
      · exact ⟨0, by omega, rfl, rfl, rfl, rfl, by rw [mdK_zero]; repeat (first | with_reducible exact dr_refl | apply dr_keep | apply dr_drop)⟩
      · intro k ρ B hI
        obtain ⟨k, hq0, hkk2, hE7, hE0, hE5, hBA⟩ := hI
        refine tc_pre hBA.sat ?_
        clear hBA
        refine tc_env (d := 7) hE7 ?_; refine tc_env (d := 0) hE0 ?_; refine tc_env (d := 5) hE5 ?_
        clear hE7 hE0 hE5
        refine tc_seq ?_; refine sr ?_; refine tlm ?_; refine tv (o_lss rfl rfl) ?_; refine nq ?_; refine tc_cond rfl (fun h => ?_) (fun h => ?_)
        · have hk : k < 8 := by first | omega | (simp at h; omega)
          have hkl := mdK_len (show k ≤ 8 by omega)
          refine tc_skip ?_; refine q_then_n ?_; refine tc_seq ?_; refine tc_block ?_; refine tc_reg ?_; refine tlm ?_; refine tlm ?_; refine tv (o_ixP1 Tryz.underlying22 sz5 rfl rfl oqz (nn_rs rs_sl (by rw [bys_length]; omega))) ?_; refine tl_u rfl (o_stP (ys := bys (mdK (k + 1))) sz5 rfl rfl rfl ctqz oqz (by rw [← mdK_succ hk]; exact bys_set _ _ 0)) ?_; refine tl_nil ?_; refine q_block_n (q_then_n ?_); refine tc_reg ?_; refine tlm ?_; refine tv adqz ?_; refine tla ?_; refine nq ?_; exact ⟨_, by omega, k + 1, by omega, rfl, rfl, rfl, rfl, drqz⟩
        · obtain rfl : k = 8 := by first | omega | (simp at h; omega)
          refine tc_exit ?_; refine q_then_e (q_then_e (q_block_x (q_then_n ?_))); refine sr ?_; refine tlm ?_; refine tl_c rfl (o_call bd5 rfl (From_c (n := 16) (xs := mdK 8) (hr := rs_sl) (hx := mdK_len (by decide)) (hb := mdK8_b))) ?_; rintro _ _ ⟨d30, rfl, rfl⟩; refine tlm ?_; refine tv (o_extract rfl rfl) ?_; refine tv (o_extract rfl rfl) ?_; refine tla ?_; refine tla ?_; refine nq ?_; refine tc_seq ?_; refine sr ?_; refine tlm ?_; refine tv (o_nei rfl rfl) ?_; refine tlm ?_; refine tl_bool (d := 35) rfl (fun h => ?_) (fun h => ?_)
          · exfalso; simp at h
          · try simp only [lv1, lv2, lv3, lv4, lv5, lv6, Bool.not_true, Bool.not_false] at h
            refine tlm ?_; refine tv (o_eqp Tryz.underlying28 rfl rfl) ?_; refine tv (o_pick_f rfl (by conv => lhs; whnf)) ?_; refine nq ?_; refine tc_cond rfl (fun h => ?_) (fun h => ?_)
            · exfalso; simp at h
            · try simp only [lv1, lv2, lv3, lv4, lv5, lv6, Bool.not_true, Bool.not_false] at h
              refine tc_skip ?_; refine q_then_n ?_; refine sr ?_; refine tlm ?_; refine tlm ?_; refine tl_c rfl (o_call bd9 rfl (Open_ok (s := fromS 16 (mdK 8)) (p := 128) (q := (sz : Nat)) (hok := by have hl9 : (fromS 16 (mdK 8)).ls.length = 16 := (by simp [fromS, newS]); rw [hl9]; omega))) ?_; rintro _ _ ⟨b42, rfl, rfl⟩; refine tlm ?_; refine tv (o_extract rfl rfl) ?_; refine tv (o_extract rfl rfl) ?_; refine tla ?_; refine tla ?_; refine nq ?_; refine sr ?_; refine tlm ?_; refine tlm ?_; refine tlm ?_; refine tv (o_eqi rfl rfl) ?_; refine tlm ?_; refine tl_bool (d := 49) rfl (fun h => ?_) (fun h => ?_)
              · try simp only [lv1, lv2, lv3, lv4, lv5, lv6, Bool.not_true, Bool.not_false] at h
                refine tlm ?_; refine tv (o_nep Tryz.underlying37 rfl rfl) ?_; refine tv (o_pick_t rfl (by conv => lhs; whnf)) ?_; refine tla ?_; refine tla ?_; refine tla ?_; refine nq ?_; refine tc_ret ?_; exact ⟨.tuple #[.pointer (some ⟨d30, 0, none⟩), .pointer (some ⟨b42, 0, none⟩), .bool true], A * Dev d30 (fromS 16 (mdK 8)) * pt b42 (cl [.pointer (some ⟨d30, 0, none⟩), .int .i64 128, .int .i64 (sz : Nat)] 94), res3 rfl rfl rfl rfl, Dr.sat drqz, d30, b42, rfl, by rw [mds_eq]; rfl⟩
              · exfalso; simp at h
end Go.Vl

namespace Go.Vl
open Go Go.Proofs
theorem as_sto {L : List (Nat × List Nat)} {I : List Nat} {p r : Nat} {b : List Nat} {s : DevS} (hA : AS L I s) (hO : s.off = false) (hp : p + b.length ≤ s.ls.length * 64) (hin : ∀ i, p ≤ i → i < p + b.length → InX L i) (hb : ∀ x ∈ b, x < 256) (hr : Room (r + b.length) s) :
    ∃ e s2, sto (p : Nat) b s = (e, s2) ∧ ((e = 0 ∧ s2.off = false ∧ AS L I s2 ∧ s2.ls.length = s.ls.length ∧ Room r s2 ∧ imgS s2 = spl (imgS s) p b) ∨ (e = 5 ∧ s2.off = true ∧ AS L I s2 ∧ s2.ls.length = s.ls.length)) := by
  by_cases hb0 : b = []
  · subst hb0
    refine ⟨0, s, ?_, .inl ⟨rfl, hO, hA, rfl, fun l hl => by have := hr l hl; omega, (spl_nil _ _).symm⟩⟩
    simp only [List.length_nil] at hp
    unfold sto; rw [hO, rdy_ok oqz (by simp) (by simp only [List.length_nil]; omega), if_neg (by decide)]; exact storeF_nil _ _ _
  have hbl : 0 < b.length := List.length_pos_iff.2 hb0
  obtain ⟨e, s1, g1, g2⟩ := storeF_loss (X := XU L I) b.length (p := p) (r := r) rfl hA.wf hO hb hr hp hA.poss (fun k j k0 k1 _ hj => xu_spl hA hp hin k j k0 k1 hj)
  have hst : sto (p : Nat) b s = (e, s1) := by
    unfold sto; rw [hO, rdy_ok oqz oqz oqz, if_neg (by decide), Int.toNat_natCast]; exact g1
  refine ⟨e, s1, hst, ?_⟩
  rcases g2 with ⟨a1, ⟨a2, a3, a4, a5, a6⟩, a7, a8⟩ | ⟨a1, a2⟩
  · refine .inl ⟨a1, a2, ⟨a3, by rw [a5]; exact hA.len, a4, fun q ln hq hln => ?_⟩, a5, a7, a8⟩
    by_cases hj : (q + 1) * 64 ≤ p ∨ p + b.length ≤ q * 64
    · rw [a6 q hj] at hln; exact hA.one q ln hq hln
    · exact absurd (show max p (q * 64) / 64 = q by omega) (hq (max p (q * 64)) (hin _ oqz oqz))
  · exact .inr ⟨a1, a2.1, as_lost a2 hA.len, a2.2.2.2.2⟩
theorem olds_mem {I : List Nat} {l : List (Int × Int)} {x : Nat × List Nat} (h : x ∈ oldsL I l) : ∃ y ∈ l, x = (y.1.toNat, (I.drop y.1.toNat).take y.2.toNat) := by
  obtain ⟨y, hy, rfl⟩ := List.mem_map.1 h; exact ⟨y, hy, rfl⟩
theorem olds_ok {sz : Nat} {l : List (Int × Int)} {I : List Nat} (hl : l.all (mayX 1024 128 sz) = true) (hI : LogI sz l I) : ∀ x ∈ oldsL mdI l, mayX 1024 128 sz ((x.1 : Int), ((x.2.length : Nat) : Int)) = true ∧ (∀ b ∈ x.2, b < 256) ∧ x.2 = (I.drop x.1).take x.2.length := fun x hx => by
  obtain ⟨y, hy, rfl⟩ := olds_mem hx
  have hm := List.all_eq_true.1 hl y hy
  obtain ⟨p, m, rfl, y1, y2, y3, y4⟩ := may_nat hm
  have hml := mdI_len
  have hol : ((mdI.drop p).take m).length = m := by rw [List.length_take, List.length_drop]; omega
  simp only [Int.toNat_natCast]
  refine ⟨by rw [hol]; exact hm, fun b hb => mdI_b b (List.mem_of_mem_drop (List.mem_of_mem_take hb)), ?_⟩
  rw [hol]
  exact (out_sub hI.2.2.2 oqz).symm
theorem olds_in {sz i : Nat} {l : List (Int × Int)} (hl : l.all (mayX 1024 128 sz) = true) (h : InX (oldsL mdI l) i) : i < 128 ∨ 128 + sz ≤ i := by
  obtain ⟨x, hx, h1, h2⟩ := h
  obtain ⟨y, hy, rfl⟩ := olds_mem hx
  obtain ⟨p, m, rfl, y1, y2, y3, y4⟩ := may_nat (List.all_eq_true.1 hl y hy)
  have hml := mdI_len
  simp only [Int.toNat_natCast, List.length_take, List.length_drop] at h1 h2
  omega
theorem sum_olds {sz : Nat} : ∀ {l : List (Int × Int)}, l.all (mayX 1024 128 sz) = true → sumL (oldsL mdI l) ≤ needN l
  | [], _ => Nat.zero_le _
  | x :: l, hl => by
    rw [List.all_cons, Bool.and_eq_true] at hl
    obtain ⟨p, m, rfl, y1, y2, y3, y4⟩ := may_nat hl.1
    have ih := sum_olds hl.2
    have e : oldsL mdI (((p : Int), (m : Int)) :: l) = (p, (mdI.drop p).take m) :: oldsL mdI l := rfl
    rw [e, sumL_cons, needN_cons]
    simp only [Int.toNat_natCast, List.length_take]
    have := up8_le m
    omega
/-- A state of the story: outside the extents the log's image; or the log is empty, all is as it was. -/
theorem as_records {sz : Nat} {l : List (Int × Int)} {I : List Nat} {s : DevS} (h1 : 128 ≤ sz) (h2 : sz % 64 = 0) (h3 : sz ≤ 896) (hl : l.all (mayX 1024 128 sz) = true) (hN : needN l ≤ sz - 64) (hI : LogI sz l I) (hA : AS (oldsL mdI l) I s) (hO : s.off = false) (hlen : s.ls.length = 16) : recordsS 128 sz s = (oldsL mdI l, 0) := by
  have hno : ∀ i, 128 ≤ i → i < 128 + sz → ¬ InX (oldsL mdI l) i := fun i a b hin => by rcases olds_in hl hin with h | h <;> omega
  refine log_records h1 h2 h3 hl hN hA.wf hO hlen rfl ?_ ?_
  · rw [hA.sub (fun i a b => hno i a oqz)]; exact hI.1
  · rw [hA.sub (fun i a b => hno i oqz oqz)]; exact hI.2.1
theorem as_roll {sz : Nat} {l : List (Int × Int)} {I : List Nat} {s : DevS} (h1 : 128 ≤ sz) (h2 : sz % 64 = 0) (h3 : sz ≤ 896) (hl : l.all (mayX 1024 128 sz) = true) (hN : needN l ≤ sz - 64) (hne : l ≠ []) (hI : LogI sz l I) (hA : AS (oldsL mdI l) I s) (hO : s.off = false) (hlen : s.ls.length = 16) (hr : Room (needN l + 1) s) :
    ∃ k e s2, rollS 128 sz s = ((k, e), s2) ∧ s2.ls.length = 16 ∧ ((e = 0 ∧ k = l.length ∧ s2.off = false ∧ WfD s2 ∧ Cln s2 ∧ imgS s2 = spl I 128 (le 8 0)) ∨ (e = 5 ∧ s2.off = true ∧ ((AS (oldsL mdI l) I s2 ∧ Cln s2) ∨ (WfD s2 ∧ Cln s2 ∧ imgS s2 = spl I 128 (le 8 0))))) := by
  have hs := sum_olds hl
  have := roll_loss (at_ := 128) (sz := sz) hA hO (by rw [hlen]; exact ⟨by decide, by decide, h1, h2, by omega⟩) (fun l hl => by have := hr l hl; omega) (by
    intro e; apply hne
    have := congrArg List.length e
    unfold oldsL at this; rw [List.length_map] at this; exact List.eq_nil_of_length_eq_zero this) (as_records h1 h2 h3 hl hN hI hA hO hlen) (by rw [hlen]; exact olds_ok hl hI)
  rw [hlen] at this
  have hll : (oldsL mdI l).length = l.length := by unfold oldsL; rw [List.length_map]
  rw [hll] at this
  exact this
/-- Behind it: no record, all bytes outside the log as they were. -/
theorem empty_log {sz : Nat} {l : List (Int × Int)} {I : List Nat} {s : DevS} (h1 : 128 ≤ sz) (h2 : sz % 64 = 0) (h3 : sz ≤ 896) (hI : LogI sz l I) (hw : WfD s) (hO : s.off = false) (hlen : s.ls.length = 16) (hi : imgS s = spl I 128 (le 8 0)) : recordsS 128 sz s = ([], 0) ∧ rollS 128 sz s = ((0, 0), s) ∧ Out 128 (128 + sz) (imgS s) mdI := by
  have hIl := hI.2.2.1
  have hr : recordsS 128 sz s = ([], 0) := by
    refine records_none hO (by rw [hlen]; exact ⟨by decide, by decide, h1, h2, by omega⟩) ?_
    have := spl_mid (l := I) (b := le 8 0) (p := 128) (by rw [le_length]; omega)
    rw [le_length] at this
    rw [hi, this]; decide
  refine ⟨hr, roll_no hr (.inr rfl), ?_⟩
  rw [hi]
  exact (out_spl (by rw [le_length]; omega) (Nat.le_refl _) (by rw [le_length]; omega)).trans hI.2.2.2
theorem md64 : (mdI.drop 64).take 4 = [64, 65, 66, 67] := by
  apply List.ext_getElem?
  intro i
  rw [List.getElem?_take]
  by_cases hi : i < 4
  · rw [if_pos hi, List.getElem?_drop, mdI_at oqz oqz]
    rcases Nat.lt_or_ge i 1 with h | h
    · obtain rfl : i = 0 := by omega
      rfl
    · rcases Nat.lt_or_ge i 2 with h | h
      · obtain rfl : i = 1 := by omega
        rfl
      · rcases Nat.lt_or_ge i 3 with h | h
        · obtain rfl : i = 2 := by omega
          rfl
        · obtain rfl : i = 3 := by omega
          rfl
  · rw [if_neg hi, List.getElem?_eq_none (by simp; omega)]
theorem aw_facts : ∃ s1 s2 s3, writeS 128 192 [(64, 4)] mds = (0, s1) ∧ writeS 128 192 [] s1 = (3, s1) ∧ sto 64 [9, 9, 9, 9] s1 = (0, s2) ∧ recordsS 128 192 s2 = ([(64, [64, 65, 66, 67])], 0) ∧ rollS 128 192 s2 = ((1, 0), s3) ∧ rollS 128 192 s3 = ((0, 0), s3) ∧ s3.off = false ∧ ((imgS s3).drop 64).take 4 = [64, 65, 66, 67] ∧
    s1.ls.length = 16 ∧ s2.ls.length = 16 ∧ s3.ls.length = 16 ∧ Room 1000 s1 ∧ Room 1000 s2 ∧ Room 1000 s3 := by
  have hl : ([((64 : Int), (4 : Int))]).all (mayX 1024 128 192) = true := by decide
  have hN : needN [((64 : Int), (4 : Int))] ≤ 192 - 64 := by decide
  obtain ⟨s1, a1, a2, a3, a4, a5, a6, _⟩ := wrote (sz := 192) (by decide) (by decide) (by decide) hl hN
  have hO1 := a2.off
  have hw1 : (wordP (128 : Nat) s1).1 = 1 := by rw [word_in hO1 (by decide) (by rw [a5]; decide)]; exact a6.1
  have hA1 : AS (oldsL mdI [(64, 4)]) (imgS s1) s1 := as_cln a3 a4 rfl
  have hold : oldsL mdI [((64 : Int), (4 : Int))] = [(64, [64, 65, 66, 67])] := by
    unfold oldsL
    rw [List.map_cons, List.map_nil]
    simp only [show (64 : Int).toNat = 64 from rfl, show (4 : Int).toNat = 4 from rfl, md64]
  have hin : ∀ i, 64 ≤ i → i < 64 + 4 → InX (oldsL mdI [(64, 4)]) i := fun i h1 h2 => by rw [hold]; exact ⟨_, List.mem_singleton.2 rfl, h1, h2⟩
  have hr1 : Room 5000 s1 := room_cln a4 (by decide)
  obtain ⟨e, s2, b1, b2⟩ := as_sto (r := 4000) (b := [9, 9, 9, 9]) hA1 hO1 (by rw [a5]; decide) hin (by decide) (fun l hl => by have := hr1 l hl; simp only [List.length_cons, List.length_nil]; omega)
  have hph2 := sto_phi (64 : Nat) [9, 9, 9, 9] s1
  rw [b1, live_phi.1 a2] at hph2
  have hL2 : Live s2 := live_phi.2 (by simp only at hph2; omega)
  rcases b2 with ⟨c1, c2, c3, c4, c5, c6⟩ | ⟨_, c2, _⟩
  · subst c1
    rw [a5] at c4
    obtain ⟨k, e, s3, d1, d2, d3⟩ := as_roll (by decide) (by decide) (by decide) hl hN (by decide) a6 c3 c2 c4 (fun l hl => by have := c5 l hl; omega)
    have hph3 : phi s3 ≤ phi s2 := by
      have : ∀ s : DevS, phi (rollS 128 192 s).2 ≤ phi s := fun s => by
        unfold rollS
        have hb : ∀ (l : List (Nat × List Nat)) (s : DevS), phi (backF l s).2 ≤ phi s := fun l => by
          induction l with
          | nil => intro s; exact Nat.le_refl _
          | cons x l ih =>
            intro s
            have hx : phi (backS x s).2 ≤ phi s := by
              unfold backS; split
              · exact sto_phi _ _ _
              · exact Nat.le_trans (flL_phi _ _ _) (sto_phi _ _ _)
            show phi (if (backS x s).1 ≠ 0 then backS x s else backF l (backS x s).2).2 ≤ _
            split
            · exact hx
            · exact Nat.le_trans (ih _) hx
        have h1 := hb (recordsS 128 192 s).1.reverse s
        have h2 := Nat.le_trans (fe_phi (backF (recordsS 128 192 s).1.reverse s).2) h1
        have h3 := Nat.le_trans (pubP_phi ((128 : Nat) : Int) 0 (fe (backF (recordsS 128 192 s).1.reverse s).2).2) h2
        repeat' (split; · first | exact Nat.le_refl _ | exact h1 | exact h2 | exact h3)
        exact h3
      have := this s2; rw [d1] at this; exact this
    have hL3 : Live s3 := live_phi.2 (by have := live_phi.1 hL2; omega)
    rcases d3 with ⟨f1, f2, f3, f4, f5, f6⟩ | ⟨_, f2, _⟩
    · subst f1
      obtain ⟨g1, g2, g3⟩ := empty_log (sz := 192) (by decide) (by decide) (by decide) a6 f4 f3 d2 f6
      refine ⟨s1, s2, s3, a1, ?_, b1, by rw [as_records (by decide) (by decide) (by decide) hl hN a6 c3 c2 c4, hold], by rw [d1, f2]; rfl, g2, f3, ?_, a5, c4, d2, room_cln a4 (by decide), fun l hl => by have := c5 l hl; omega, room_cln f5 (by decide)⟩
      · unfold writeS
        rw [if_neg (by rw [hO1]; decide), hw1, if_pos (by decide)]
      · rw [out_sub g3 oqz]
        exact md64
    · rw [hL3.off] at f2; exact absurd f2 (by decide)
  · rw [hL2.off] at c2; exact absurd c2 (by decide)
end Go.Vl

namespace Go.Vl
open Go Go.Proofs
theorem pair_eq {α β : Type} {x : α × β} {a c : α} {b d : β} (h1 : x = (a, b)) (h2 : x = (c, d)) : a = c ∧ b = d := by
  rw [h1] at h2; simpa using h2
theorem len_one {α : Type} : ∀ {l : List α}, l.length = 1 → ∃ x, l = [x]
  | [x], _ => ⟨x, rfl⟩
attribute [local irreducible] crk crL crc Sl pt ro Dev imgS recS readS recsF rdW rdO rkT Parts rvl recordsS mdI mdK rise mds writeS rollS
set_option maxRecDepth 20000 in
set_option maxHeartbeats 2000000 in
theorem awake11_c {A : SP} :
    Fn Tryz.prog 8 #[] (A) (fun r B => r = .bool true ∧ A = B) := by
  refine fn_enterW (args := []) Tryz.func8 rfl Tryz.ntmps8 (by simp) ?_
  obtain ⟨s1, s2, s3, k1, k2, k3, k4, k5, k6, k7, k8, k9, k10, k11, k12, k13, k14⟩ := aw_facts
  refine sr ?_; refine tla ?_; refine nq ?_; refine sr ?_; refine tl_c rfl (o_call bd22 rfl (made_c (sz := 192))) ?_; rintro _ _ ⟨d, bl, rfl, rfl⟩; refine tlm ?_; refine tv (o_extract rfl rfl) ?_; refine tv (o_extract rfl rfl) ?_; refine tv (o_extract rfl rfl) ?_; refine tla ?_; refine tla ?_; refine tla ?_; refine nq ?_; refine tc_seq ?_; refine sr ?_; refine tlm ?_; refine tv (o_not rfl) ?_; refine tlm ?_; refine tl_bool (d := 19) rfl (fun h => ?_) (fun h => ?_)
  · exfalso; simp at h
  · try simp only [lv1, lv2, lv3, lv4, lv5, lv6, Bool.not_true, Bool.not_false] at h
    refine tlm ?_; refine tv (o_bS (l := [_, _]) (pv_cons (by conv => lhs; whnf) (pv_cons (by conv => lhs; whnf) pv_nil)) Tryz.underlying82 z82 (pl82 Tryz.underlying82) rfl) ?_; refine tl_x rfl (o_buildSliceK (k := 2) (l := xcs ((64 : Int), (4 : Int))) Tryz.underlying47 sz82 z82 rfl rfl (by decide)) ?_; rintro _ _ ⟨b22, rfl, rfl⟩; refine tl_c rfl (o_call bd23 rfl (Write_c (s := mds) (xs := [((64 : Int), (4 : Int))]) (hlw := mdw 192 (by decide) (by decide) (by decide)) (hr := show Rs _ _ (xcs ((64 : Int), (4 : Int))) from by repeat (first | exact rs_pt rfl | apply Rs.left)) (hX := by intro x hx; rw [List.mem_singleton] at hx; subst hx; exact ⟨by decide, by decide⟩) (hroom := room_cln mds_cln (by decide)))) ?_; rintro _ _ ⟨e23, s23, hs23, rfl, rfl⟩
    obtain ⟨rfl, rfl⟩ := pair_eq k1 hs23
    refine tv (o_nei rfl rfl) ?_; refine tv (o_pick_f rfl (by conv => lhs; whnf)) ?_; refine tlm ?_; refine tl_bool (d := 26) rfl (fun h => ?_) (fun h => ?_)
    · exfalso; simp at h
    · try simp only [lv1, lv2, lv3, lv4, lv5, lv6, Bool.not_true, Bool.not_false] at h
      refine tlm ?_; refine tl_c rfl (o_call bd23 rfl (Write_c (s := s1) (xs := []) (hlw := by rw [k9]; exact ⟨by decide, by decide, by decide, by decide, by decide⟩) (hr := rs_none) (hX := by intro x hx; cases hx) (hroom := room_le k12 (by decide)))) ?_; rintro _ _ ⟨e28, s28, hs28, rfl, rfl⟩
      obtain ⟨rfl, rfl⟩ := pair_eq k2 hs28
      refine tv (o_nei rfl rfl) ?_; refine tv (o_pick_f rfl (by conv => lhs; whnf)) ?_; refine tlm ?_; refine tl_bool (d := 31) rfl (fun h => ?_) (fun h => ?_)
      · exfalso; simp at h
      · try simp only [lv1, lv2, lv3, lv4, lv5, lv6, Bool.not_true, Bool.not_false] at h
        refine tlm ?_; refine tl_x rfl (o_buildSliceL (k := 1) (vs := bys [9, 9, 9, 9]) (l := bys [9, 9, 9, 9]) Tryz.underlying22 sz5 z5 rfl rfl (by decide) (by decide) (by intro v hv; simp only [bys, b8, List.map_cons, List.map_nil, List.mem_cons, List.not_mem_nil, or_false] at hv; rcases hv with rfl | rfl | rfl | rfl <;> rfl) rfl) ?_; rintro _ _ ⟨b33, rfl, rfl⟩; refine tl_c rfl (o_call bd24 rfl (Store_c (s := s1) (p := 64) (xs := [9, 9, 9, 9]) (hr := show Rs _ _ (bys [9, 9, 9, 9]) from by repeat (first | exact rs_pt rfl | apply Rs.left)) (hm := rfl) (hb := by decide) (hroom := fun _ => room_le k12 (by decide)))) ?_; rintro _ _ ⟨e34, s34, hs34, rfl, rfl⟩
        obtain ⟨rfl, rfl⟩ := pair_eq k3 hs34
        refine tv (o_nei rfl rfl) ?_; refine tv (o_pick_f rfl (by conv => lhs; whnf)) ?_; refine nq ?_; refine tc_cond rfl (fun h => ?_) (fun h => ?_)
        · exfalso; simp at h
        · try simp only [lv1, lv2, lv3, lv4, lv5, lv6, Bool.not_true, Bool.not_false] at h
          refine tc_skip ?_; refine q_then_n ?_; refine sr ?_; refine tlm ?_; refine tl_c rfl (o_call bd25 rfl (Records_w (s := s2) (hX := k4) (hlw := by rw [k10]; exact ⟨by decide, by decide, by decide, by decide, by decide⟩))) ?_; rintro _ _ ⟨a39, c39, vs, rfl, hc39, hvs, rfl⟩
          obtain ⟨v, rfl⟩ := len_one hvs
          refine tlm ?_; refine tv (o_extract rfl rfl) ?_; refine tv (o_extract rfl rfl) ?_; refine tla ?_; refine tla ?_; refine nq ?_; refine sr ?_; refine tlm ?_; refine tl_c rfl (o_call bd26 rfl (Rg.Rollback_c (s := s2) (hroom := room_le k13 (by decide)) (hlw := by rw [k10]; exact ⟨by decide, by decide, by decide, by decide, by decide⟩))) ?_; rintro _ _ ⟨e44, n44, s44, hs44, rfl, rfl⟩
          obtain ⟨hq9, rfl⟩ := pair_eq k5 hs44
          simp only [Prod.mk.injEq] at hq9
          obtain ⟨rfl, rfl⟩ := hq9
          refine tlm ?_; refine tv (o_extract rfl rfl) ?_; refine tv (o_extract rfl rfl) ?_; refine tla ?_; refine tla ?_; refine nq ?_; refine sr ?_; refine tlm ?_; refine tl_c rfl (o_call bd27 rfl (Load_c (s := s3) (p := 64) (m := 4) (hpm := by rw [k11]; decide))) ?_; rintro _ _ ⟨a49, c49, rfl, hc49, rfl⟩; refine tlm ?_; refine tv (o_extract rfl rfl) ?_; refine tv (o_extract rfl rfl) ?_; refine tla ?_; refine tla ?_; refine nq ?_; refine sr ?_; refine tlm ?_; refine tl_c rfl (o_call bd26 rfl (Rg.Rollback_c (s := s3) (hroom := room_le k14 (by decide)) (hlw := by rw [k11]; exact ⟨by decide, by decide, by decide, by decide, by decide⟩))) ?_; rintro _ _ ⟨e54, n54, s54, hs54, rfl, rfl⟩
          obtain ⟨hq9, hs9⟩ := pair_eq k6 hs54
          simp only [Prod.mk.injEq] at hq9
          obtain ⟨rfl, rfl⟩ := hq9
          obtain rfl := hs9
          refine tlm ?_; refine tv (o_extract rfl rfl) ?_; refine tv (o_extract rfl rfl) ?_; refine tla ?_; refine tla ?_; refine nq ?_; refine sr ?_; refine tlm ?_; refine tv (o_eqi rfl rfl) ?_; refine tlm ?_; refine tl_bool (d := 59) rfl (fun h => ?_) (fun h => ?_)
          · try simp only [lv1, lv2, lv3, lv4, lv5, lv6, Bool.not_true, Bool.not_false] at h
            refine tlm ?_; refine tv (o_len Tryz.underlying84 rfl) ?_; refine tv (o_eqi rfl rfl) ?_; refine tv (o_pick_t rfl (by conv => lhs; whnf)) ?_; refine tlm ?_; refine tl_bool (d := 64) rfl (fun h => ?_) (fun h => ?_)
            · try simp only [lv1, lv2, lv3, lv4, lv5, lv6, Bool.not_true, Bool.not_false] at h
              refine tlm ?_; refine tv (o_ixP (j := 0) (a := a39) Tryz.underlying84 sz92 rfl rfl (by decide) (nn_rs (xs := kcl [(64, [64, 65, 66, 67])] [v]) sq2z (fun _ => by show 0 < 2; decide))) ?_; refine tv (o_faP (a := a39) (m := 0) (o := 0) Tryz.underlying92 rfl rfl sz3 rfl (nn_rs (xs := kcl [(64, [64, 65, 66, 67])] [v]) sq2z (fun _ => by show 0 < 2; decide))) ?_; refine tv (o_ldP (a := a39) (xs := kcl [(64, [64, 65, 66, 67])] [v]) p3 rfl sq2z rfl) ?_; refine tl_env (d := 68) (v := .int .i64 64) (rfl) ?_; refine tv (o_eqi rfl rfl) ?_; refine tv (o_pick_t rfl (by conv => lhs; whnf)) ?_; refine tlm ?_; refine tl_bool (d := 71) rfl (fun h => ?_) (fun h => ?_)
              · try simp only [lv1, lv2, lv3, lv4, lv5, lv6, Bool.not_true, Bool.not_false] at h
                refine tlm ?_; refine tv (o_eqi rfl rfl) ?_; refine tv (o_pick_t rfl (by conv => lhs; whnf)) ?_; refine tlm ?_; refine tl_bool (d := 75) rfl (fun h => ?_) (fun h => ?_)
                · try simp only [lv1, lv2, lv3, lv4, lv5, lv6, Bool.not_true, Bool.not_false] at h
                  refine tlm ?_; refine tv (o_eqi rfl rfl) ?_; refine tv (o_pick_t rfl (by conv => lhs; whnf)) ?_; refine tlm ?_; refine tl_bool (d := 79) rfl (fun h => ?_) (fun h => ?_)
                  · try simp only [lv1, lv2, lv3, lv4, lv5, lv6, Bool.not_true, Bool.not_false] at h
                    refine tlm ?_; refine tv (o_eqi rfl rfl) ?_; refine tv (o_pick_t rfl (by conv => lhs; whnf)) ?_; refine tlm ?_; refine tl_bool (d := 83) rfl (fun h => ?_) (fun h => ?_)
                    · try simp only [lv1, lv2, lv3, lv4, lv5, lv6, Bool.not_true, Bool.not_false] at h
                      refine tlm ?_; refine tl_x rfl (o_buildSliceL (k := 1) (vs := bys [64, 65, 66, 67]) (l := bys [64, 65, 66, 67]) Tryz.underlying22 sz5 z5 rfl rfl (by decide) (by decide) (by intro v hv; simp only [bys, b8, List.map_cons, List.map_nil, List.mem_cons, List.not_mem_nil, or_false] at hv; rcases hv with rfl | rfl | rfl | rfl <;> rfl) rfl) ?_; rintro _ _ ⟨b85, rfl, rfl⟩; refine tl_c rfl (o_call bd14 rfl (EqBytes_c (xs := ((imgS s3).drop 64).take 4) (ys := [64, 65, 66, 67]) (h1 := (by repeat (first | assumption | with_reducible exact rs_sl | with_reducible exact rs_pt0 | exact rs_none | apply Rs.left))) (h2 := show Rs _ _ (bys [64, 65, 66, 67]) from by repeat (first | exact rs_pt rfl | apply Rs.left)) (hx := by rw [k8]; rfl) (hy := rfl))) ?_; rintro _ _ ⟨rfl, rfl⟩; refine tl_env (d := 86) (v := .bool true) (by show Value.bool (decide _) = _; rw [decide_eq_true k8]) ?_; refine tv (o_pick_t rfl (by conv => lhs; whnf)) ?_; refine tlm ?_; refine tl_bool (d := 88) rfl (fun h => ?_) (fun h => ?_)
                      · try simp only [lv1, lv2, lv3, lv4, lv5, lv6, Bool.not_true, Bool.not_false] at h
                        refine tlm ?_; refine tv (o_eqi rfl rfl) ?_; refine tv (o_pick_t rfl (by conv => lhs; whnf)) ?_; refine tlm ?_; refine tl_bool (d := 92) rfl (fun h => ?_) (fun h => ?_)
                        · try simp only [lv1, lv2, lv3, lv4, lv5, lv6, Bool.not_true, Bool.not_false] at h
                          refine tlm ?_; refine tv (o_eqi rfl rfl) ?_; refine tv (o_pick_t rfl (by conv => lhs; whnf)) ?_; refine tla ?_; refine nq ?_; refine tc_ret ?_; exact ⟨.bool true, A, res1 rfl rfl, Dr.sat drqz, rfl, rfl⟩
                        · exfalso; simp at h
                      · exfalso; simp at h
                    · exfalso; simp at h
                  · exfalso; simp at h
                · exfalso; simp at h
              · exfalso; simp at h
            · exfalso; simp at h
          · exfalso; simp at h
end Go.Vl

namespace Go.Vl
open Go Go.Proofs
def NoL (A : SP) (v : Value) : Prop := v = .pointer none ∨ ∃ b, v = .pointer (some ⟨b, 0, none⟩) ∧ Has A b (cl [.pointer none, .int .i64 0, .int .i64 0] 94)
theorem NoL.left {A X : SP} {v : Value} (h : NoL A v) : NoL (A * X) v := h.imp id fun ⟨b, e, hc⟩ => ⟨b, e, has_left hc⟩
attribute [local irreducible] crk crL crc Sl pt ro Dev imgS recS readS recsF rdW rdO rkT Parts rvl recordsS mdI mdK rise mds writeS rollS
namespace Rg
end Rg
namespace Rg
end Rg
end Go.Vl

namespace Go.Vl
open Go Go.Proofs
def lst (xs : List Int) (i : Nat) : List (Int × Int) := (xs.take i).map fun x => ((600 : Int), 1 + x % 90)
theorem xcl_snoc (l : List (Int × Int)) (x : Int × Int) : xcl (l ++ [x]) = xcl l ++ xcs x := by unfold xcl; simp
theorem kcl_f {L : List (Nat × List Nat)} {vs : List Value} {k : Nat} (h1 : vs.length = L.length) (h2 : k < L.length) : (kcl L vs)[k * 2 + 0]? = some (.int .i64 ((L.getD k (0, [])).1 : Nat)) ∧ (kcl L vs)[k * 2 + 1]? = some (vs.getD k (.slice none 0 0)) := by
  have h := kcl_at h1 h2
  constructor
  · have := congrArg (fun l : List Value => l[0]?) h
    rw [List.getElem?_take, if_pos (by decide), List.getElem?_drop] at this; exact this
  · have := congrArg (fun l : List Value => l[1]?) h
    rw [List.getElem?_take, if_pos (by decide), List.getElem?_drop] at this; exact this
end Go.Vl

namespace Go.Vl
open Go Go.Proofs
theorem sq6z {p : Prop} (h : p := by repeat (first | assumption | with_reducible exact rs_sl | with_reducible exact rs_pt0 | apply Rs.left)) : p := h
/-- An extent, brought to where it may be. -/
def brN (x : Int × Int) : Int := 1 + (IntKind.i64.wrap (x.2 - 1)) % 40
def brX (x : Int × Int) : Int × Int := (if 256 ≤ x.1 ∨ x.1 < 0 then 512 + x.1 % (512 - brN x + 1) else 64 + x.1 % (64 - brN x + 1), brN x)
def brL (es : List (Int × Int)) (i : Nat) : List (Int × Int) := (es.take i).map brX
def fiveX (k : Nat) : List (Int × Int) := (List.range k).map fun i : Nat => ((64 : Int), 1 + (i : Int))
theorem fiveX_zero : fiveX 0 = [] := rfl
theorem fiveX_succ (k : Nat) : fiveX (k + 1) = fiveX k ++ [((64 : Int), 1 + (k : Int))] := by unfold fiveX; rw [List.range_succ, List.map_append]; rfl
theorem xcl_one (l : List (Int × Int)) : (xcl l).all oneC = true := fm_oneC fun _ _ => rfl
attribute [local irreducible] crk crL crc Sl pt ro Dev imgS recS readS recsF rdW rdO rkT Parts rvl recordsS mdI mdK rise mds writeS rollS clearS oldsL kcl xcl lensX lst brL brX fiveX
theorem extents_c {A : SP} {a : Option Addr} {n c : Nat} {l : List (Int × Int)} (hr : Rs A a (xcl l) := by repeat (first | assumption | with_reducible exact rs_sl | with_reducible exact rs_pt0 | exact rs_none | apply Rs.left)) (hm : l.length = n := by first | assumption | rfl) (hs : n ≤ 1099511627776 := by omega) :
    Fn Tryz.prog 29 #[.slice a n c] (A) (fun r B => ∃ a2 c2, r = .slice a2 n c2 ∧ n + 5 ≤ c2 ∧ B = A * Sl 2 (.slice a2 (n + 5) c2) (n + 5) (xcl (l ++ fiveX 5))) := by
  refine fn_enterW (args := [.slice a n c]) Tryz.func29 rfl Tryz.ntmps29 (by simp) ?_; refine sr ?_; refine tla ?_; refine nq ?_; refine sr ?_; refine tla ?_; refine nq ?_; refine sr ?_; refine tlm ?_; refine tlm ?_; refine tl_x rfl (o_apN Tryz.underlying47 Tryz.underlying47 sz82 by82 z82 rfl (by decide) (by decide) rfl rfl (ys := xcl l) sq6z (by rw [xcl_len, hm]) (xcl_one _) oqz) ?_; rintro _ _ ⟨a7, c7, rfl, hc7, rfl⟩; refine tla ?_; refine nq ?_; refine tc_seq ?_; refine sr ?_; refine tla ?_; refine nq ?_; refine tc_block ?_; refine tc_loop (fun kk ρ BB => ∃ (i : Nat) (a3 : Option Addr) (c3 : Nat), (i ≤ 5) ∧ (n + i ≤ c3) ∧ kk = 5 - i ∧ ρ 3 = .slice a3 (n + i) c3 ∧ ρ 4 = .int .i64 (i : Nat) ∧ ρ 0 = .slice a n c ∧ Dr BB (A * Sl 2 (.slice a3 (n + i) c3) (n + i) (xcl (l ++ fiveX i)))) (m := 5 - (0)) ?_ ?_
  · exact ⟨0, a7, c7, by omega, hc7, rfl, rfl, rfl, rfl, by rw [fiveX_zero, List.append_nil]; repeat (first | with_reducible exact dr_refl | apply dr_keep | apply dr_drop)⟩
  · intro k ρ B hI
    obtain ⟨i, a3, c3, hp0, hp1, hkk1, hE3, hE4, hE0, hBA⟩ := hI
    refine tc_pre hBA.sat ?_
    clear hBA
    refine tc_env (d := 3) hE3 ?_; refine tc_env (d := 4) hE4 ?_; refine tc_env (d := 0) hE0 ?_
    clear hE3 hE4 hE0
    refine tc_seq ?_; refine sr ?_; refine tlm ?_; refine tv (o_lss rfl rfl) ?_; refine nq ?_; refine tc_cond rfl (fun h => ?_) (fun h => ?_)
    · have hi : i < 5 := by first | omega | (simp at h; omega)
      refine tc_skip ?_; refine q_then_n ?_; refine tc_seq ?_; refine tc_block ?_; refine tc_reg ?_; refine tlm ?_; refine tlm ?_; refine tv (o_addI rfl rfl oqz) ?_; refine tv (o_bS (l := [_, _]) (pv_cons (by conv => lhs; whnf) (pv_cons (by conv => lhs; whnf) pv_nil)) Tryz.underlying82 z82 (pl82 Tryz.underlying82) rfl) ?_; refine tl_x rfl (o_buildSliceK (k := 2) (l := xcs ((64 : Int), 1 + (i : Int))) Tryz.underlying47 sz82 z82 rfl rfl (by decide)) ?_; rintro _ _ ⟨b16, rfl, rfl⟩; refine tl_x rfl (o_apB Tryz.underlying47 Tryz.underlying47 sz82 by82 z82 rfl (by decide) (by decide) rfl rfl rfl ctqz rfl rfl oqz (show _ = xcl (l ++ fiveX i) ++ xcs ((64 : Int), 1 + (i : Int)) from rfl)) ?_; rintro _ _ ⟨a17, c17, rfl, hc17, rfl⟩; refine tla ?_; refine tl_nil ?_; refine q_block_n (q_then_n ?_); refine tc_reg ?_; refine tlm ?_; refine tv adqz ?_; refine tla ?_; refine nq ?_; exact ⟨_, by omega, i + 1, _, _, by omega, hc17, rfl, rfl, rfl, rfl, by rw [fiveX_succ, ← List.append_assoc, xcl_snoc]; repeat (first | with_reducible exact dr_refl | apply dr_keep | apply dr_drop)⟩
    · obtain rfl : i = 5 := by first | omega | (simp at h; omega)
      refine tc_exit ?_; refine q_then_e (q_then_e (q_block_x (q_then_n ?_))); refine sr ?_; refine tlm ?_; refine tlm ?_; refine tv (o_len Tryz.underlying47 rfl) ?_; refine tv (o_slice (l := 0) (h := n) Tryz.underlying47 sz82 rfl bnd_none (bnd_nat rfl) oqz oqz) ?_; refine tl_env (d := 21) (v := .slice a3 n c3) (by show Value.slice (cutAddr _ _ 0 2) (n - 0) (c3 - 0) = _; rw [show cutAddr a3 c3 0 2 = a3 by unfold cutAddr; cases a3 <;> simp [Addr.add]]; rfl) ?_; refine tla ?_; refine nq ?_; refine tc_ret ?_; exact ⟨.slice a3 n c3, _, res1 rfl rfl, fun _ _ h => h, a3, c3, rfl, hp1, rfl⟩
end Go.Vl

namespace Go.Vl
open Go Go.Proofs
/-- The bytes of records can be read. -/
def PsR (A : SP) (L : List (Nat × List Nat)) (vs : List Value) : Prop := ∀ k, k < L.length → ∃ b c, vs.getD k (.slice none 0 0) = .slice b (L.getD k (0, [])).2.length c ∧ Rs A b (bys (L.getD k (0, [])).2) ∧ (L.getD k (0, [])).2.length ≤ 4294967296
theorem psr_of {A : SP} {L : List (Nat × List Nat)} {vs : List Value} (h1 : vs.length = L.length) (h2 : ∀ k, k < L.length → ∃ b c, vs.getD k (.slice none 0 0) = .slice b (L.getD k (0, [])).2.length c ∧ (L.getD k (0, [])).2.length ≤ c) (h3 : ∀ x ∈ L, x.2.length ≤ 4294967296) : PsR (A * Parts vs (L.map (·.2))) L vs := fun k hk => by
  obtain ⟨b, c, e, _⟩ := h2 k hk
  exact ⟨b, c, e, parts_rsL h1 hk e A, h3 _ (getD_mem hk)⟩
theorem PsR.left {A X : SP} {L : List (Nat × List Nat)} {vs : List Value} (h : PsR A L vs) : PsR (A * X) L vs := fun k hk => by
  obtain ⟨b, c, e, hr, hl⟩ := h k hk; exact ⟨b, c, e, hr.left, hl⟩
theorem list_step {α : Type} [Inhabited α] {xs ys : List α} {i : Nat} {d : α} (h : xs.take i = ys.take i) (hi : i < xs.length) (hj : i < ys.length) (e : xs.getD i d = ys.getD i d) : xs.take (i + 1) = ys.take (i + 1) := by
  rw [List.take_succ_eq_append_getElem hi, List.take_succ_eq_append_getElem hj, h]
  rw [List.getD_eq_getElem?_getD, List.getD_eq_getElem?_getD, List.getElem?_eq_getElem hi, List.getElem?_eq_getElem hj] at e
  simp only [Option.getD_some] at e
  rw [e]
attribute [local irreducible] crk crL crc Sl pt ro Dev imgS recS readS recsF rdW rdO rkT Parts rvl recordsS mdI mdK rise mds writeS rollS clearS oldsL kcl xcl lensX lst brL brX fiveX
set_option maxRecDepth 20000 in
set_option maxHeartbeats 2000000 in
theorem sameRecords_c {A : SP} {a b : Option Addr} {n m c e : Nat} {La Lb : List (Nat × List Nat)} {va vb : List Value} (ha : Rs A a (kcl La va) := by repeat (first | assumption | with_reducible exact rs_sl | with_reducible exact rs_pt0 | exact rs_none | apply Rs.left)) (hb : Rs A b (kcl Lb vb) := by repeat (first | assumption | with_reducible exact rs_sl | with_reducible exact rs_pt0 | exact rs_none | apply Rs.left)) (hva : va.length = La.length := by assumption) (hvb : vb.length = Lb.length := by assumption) (hna : La.length = n := by first | assumption | rfl) (hnb : Lb.length = m := by first | assumption | rfl) (hpa : PsR A La va) (hpb : PsR A Lb vb) (hbn : n ≤ 4611686018427387904 := by omega) :
    Fn Tryz.prog 35 #[.slice a n c, .slice b m e] (A) (fun r B => r = .bool (decide (La = Lb)) ∧ A = B) := by
  refine fn_enterW (args := [.slice a n c, .slice b m e]) Tryz.func35 rfl Tryz.ntmps35 (by simp) ?_; refine sr ?_; refine tla ?_; refine nq ?_; refine tc_seq ?_; refine sr ?_; refine tlm ?_; refine tv (o_len Tryz.underlying84 rfl) ?_; refine tlm ?_; refine tv (o_len Tryz.underlying84 rfl) ?_; refine tv (o_nei rfl rfl) ?_; refine nq ?_; refine tc_cond rfl (fun h => ?_) (fun h => ?_)
  · try simp only [lv1, lv2, lv3, lv4, lv5, lv6, Bool.not_true, Bool.not_false] at h
    refine sr ?_; refine tla ?_; refine nq ?_; refine tc_ret ?_; refine q_then_r ?_
    have e9 : decide (La = Lb) = false := decide_eq_false fun e => by subst e; first | omega | (simp at h; omega)
    rw [e9]
    exact ⟨.bool false, A, res1 rfl rfl, Dr.sat drqz, rfl, rfl⟩
  · obtain rfl : n = m := by first | omega | (simp at h; omega)
    refine tc_skip ?_; refine q_then_n ?_; refine tc_seq ?_; refine sr ?_; refine tla ?_; refine nq ?_; refine tc_block ?_; refine tc_loop (fun kk ρ BB => ∃ (i : Nat), (i ≤ n) ∧ (La.take i = Lb.take i) ∧ kk = n - i ∧ ρ 5 = .int .i64 (i : Nat) ∧ ρ 0 = .slice a n c ∧ ρ 1 = .slice b n e ∧ BB = A) (m := n - (0)) ?_ ?_
    · exact ⟨0, by omega, rfl, rfl, rfl, rfl, rfl, rfl⟩
    · intro k ρ B hI
      obtain ⟨i, hp0, hp1, hkk1, hE5, hE0, hE1, hBA⟩ := hI
      obtain rfl := hBA.symm
      refine tc_env (d := 5) hE5 ?_; refine tc_env (d := 0) hE0 ?_; refine tc_env (d := 1) hE1 ?_
      clear hE5 hE0 hE1
      refine tc_seq ?_; refine sr ?_; refine tlm ?_; refine tlm ?_; refine tv (o_len Tryz.underlying84 rfl) ?_; refine tv (o_lss rfl rfl) ?_; refine nq ?_; refine tc_cond rfl (fun h => ?_) (fun h => ?_)
      · have hi : i < La.length := by first | omega | (simp at h; omega)
        have hj : i < Lb.length := by omega
        obtain ⟨xb, xc, hv, hrb, hlb⟩ := hpa i hi
        obtain ⟨yb, yc, hu, hry, hly⟩ := hpb i hj
        obtain ⟨x, hx⟩ : ∃ x, La.getD i (0, []) = x := ⟨_, rfl⟩
        obtain ⟨y, hy⟩ : ∃ y, Lb.getD i (0, []) = y := ⟨_, rfl⟩
        have hka := kcl_f hva hi
        have hkb := kcl_f hvb hj
        rw [hx] at hv hrb hlb hka
        rw [hy] at hu hry hly hkb
        rw [hv] at hka
        rw [hu] at hkb
        refine tc_skip ?_; refine q_then_n ?_; refine tc_seq ?_; refine tc_block ?_; refine tc_seq ?_; refine tc_cut (fun ρ BB => ∃ (bq : Bool), (bq = !decide (La.getD i (0, []) = Lb.getD i (0, []))) ∧ ρ 41 = .bool bq ∧ ρ 0 = .slice a n c ∧ ρ 1 = .slice b n e ∧ ρ 5 = .int .i64 (i : Nat) ∧ BB = A) ?_ ?_
        · skip
          refine tc_regq mo kqz ?_; refine ql_v rfl (o_move (by conv => lhs; whnf)) ?_; refine ql_v rfl (o_move (by conv => lhs; whnf)) ?_; refine ql_v rfl (o_ixP (a := a) Tryz.underlying84 sz92 rfl rfl oqz (nn_rs (xs := kcl La va) sq6z (fun _ => by rw [kcl_len (by assumption)]; omega))) ?_; refine ql_v rfl (o_faP (a := a) (m := 0) (o := 0) Tryz.underlying92 rfl rfl sz3 rfl (nn_rs (xs := kcl La va) sq6z (fun _ => by rw [kcl_len (by assumption)]; omega))) ?_; refine ql_v rfl (o_ldP (a := a) (xs := kcl La va) p3 rfl sq6z hka.1) ?_; refine ql_v rfl (o_move (by conv => lhs; whnf)) ?_; refine ql_v rfl (o_move (by conv => lhs; whnf)) ?_; refine ql_v rfl (o_ixP (a := b) Tryz.underlying84 sz92 rfl rfl oqz (nn_rs (xs := kcl Lb vb) sq6z (fun _ => by rw [kcl_len (by assumption)]; omega))) ?_; refine ql_v rfl (o_faP (a := b) (m := 0) (o := 0) Tryz.underlying92 rfl rfl sz3 rfl (nn_rs (xs := kcl Lb vb) sq6z (fun _ => by rw [kcl_len (by assumption)]; omega))) ?_
          refine ql_v rfl (o_ldP (a := b) (xs := kcl Lb vb) p3 rfl sq6z hkb.1) ?_; refine ql_v rfl (o_nei rfl rfl) ?_; refine ql_v rfl (o_move (by conv => lhs; whnf)) ?_; refine ql_bool (d := 28) rfl (fun h => ?_) (fun h => ?_)
          · have hne : x ≠ y := fun e => by subst e; simp at h
            refine ql_skip rfl ?_; refine ql_skip rfl ?_; refine ql_skip rfl ?_; refine ql_skip rfl ?_; refine ql_skip rfl ?_; refine ql_skip rfl ?_; refine ql_skip rfl ?_; refine ql_skip rfl ?_; refine ql_skip rfl ?_; refine ql_skip rfl ?_; refine ql_skip rfl ?_; refine ql_skip rfl ?_; refine ql_v rfl (o_pick_t rfl (by conv => lhs; whnf)) ?_; refine ql_nil ?_; exact ⟨_, by rw [hx, hy]; first | (rw [decide_eq_false hne]; rfl) | (congr 1; rw [decide_eq_decide]; exact ⟨fun h9 => Prod.ext h1eq h9, fun h9 => by rw [h9]⟩), rfl, rfl, rfl, rfl, rfl⟩
          · have h1eq : x.1 = y.1 := by first | (have h9 := of_decide_eq_false h; omega) | (simp at h; omega)
            refine ql_v rfl (o_move (by conv => lhs; whnf)) ?_; refine ql_v rfl (o_move (by conv => lhs; whnf)) ?_; refine ql_v rfl (o_ixP (a := a) Tryz.underlying84 sz92 rfl rfl oqz (nn_rs (xs := kcl La va) sq6z (fun _ => by rw [kcl_len (by assumption)]; omega))) ?_; refine ql_v rfl (o_faP (a := a) (m := 0) (o := 1) Tryz.underlying92 rfl rfl sz22 rfl (nn_rs (xs := kcl La va) sq6z (fun _ => by rw [kcl_len (by assumption)]; omega))) ?_; refine ql_v rfl (o_ldP (a := a) (xs := kcl La va) p22 rfl sq6z hka.2) ?_; refine ql_v rfl (o_move (by conv => lhs; whnf)) ?_; refine ql_v rfl (o_move (by conv => lhs; whnf)) ?_; refine ql_v rfl (o_ixP (a := b) Tryz.underlying84 sz92 rfl rfl oqz (nn_rs (xs := kcl Lb vb) sq6z (fun _ => by rw [kcl_len (by assumption)]; omega))) ?_; refine ql_v rfl (o_faP (a := b) (m := 0) (o := 1) Tryz.underlying92 rfl rfl sz22 rfl (nn_rs (xs := kcl Lb vb) sq6z (fun _ => by rw [kcl_len (by assumption)]; omega))) ?_
            refine ql_v rfl (o_ldP (a := b) (xs := kcl Lb vb) p22 rfl sq6z hkb.2) ?_; refine ql_c rfl (fun w => exec_call bd14 rfl) (EqBytes_c (xs := x.2) (ys := y.2) (h1 := hrb) (h2 := hry) (hx := rfl) (hy := rfl)) ?_; refine ql_v rfl (o_not rfl) ?_; refine ql_v rfl (o_pick_f rfl (by conv => lhs; whnf)) ?_; refine ql_nil ?_; exact ⟨_, by rw [hx, hy]; first | (rw [decide_eq_false hne]; rfl) | (congr 1; rw [decide_eq_decide]; exact ⟨fun h9 => Prod.ext h1eq h9, fun h9 => by rw [h9]⟩), rfl, rfl, rfl, rfl, rfl⟩
        · intro ρ B hI
          obtain ⟨bq, hbq0, hE41, hE0, hE1, hE5, hBA⟩ := hI
          obtain rfl := hBA.symm
          refine q_then_n ?_; refine tc_env (d := 41) hE41 ?_; refine tc_env (d := 0) hE0 ?_; refine tc_env (d := 1) hE1 ?_; refine tc_env (d := 5) hE5 ?_
          clear hE41 hE0 hE1 hE5
          refine tc_cond rfl (fun h => ?_) (fun h => ?_)
          · have hne : La ≠ Lb := fun e9 => by rw [h, e9] at hbq0; simp at hbq0
            refine sr ?_; refine tla ?_; refine nq ?_; refine tc_ret ?_; refine q_block_r (q_then_r (q_then_r (q_block_r (q_then_r ?_))))
            have e9 : decide (La = Lb) = false := decide_eq_false hne
            rw [e9]
            exact ⟨.bool false, A, res1 rfl rfl, Dr.sat drqz, rfl, rfl⟩
          · have heq : La.getD i (0, []) = Lb.getD i (0, []) := by rw [h] at hbq0; simpa using hbq0
            refine tc_skip ?_; refine q_block_n (q_then_n ?_); refine tc_reg ?_; refine tlm ?_; refine tv adqz ?_; refine tla ?_; refine nq ?_; exact ⟨_, by omega, i + 1, by omega, list_step (d := (0, [])) hp1 oqz oqz heq, rfl, rfl, rfl, rfl, rfl⟩
      · obtain rfl : i = n := by first | omega | (simp at h; omega)
        refine tc_exit ?_; refine q_then_e (q_then_e (q_block_x (q_then_n ?_))); refine sr ?_; refine tla ?_; refine nq ?_; refine tc_ret ?_
        have e9 : decide (La = Lb) = true := decide_eq_true (by rw [List.take_of_length_le oqz, List.take_of_length_le oqz] at hp1; exact hp1)
        rw [e9]
        exact ⟨.bool true, A, res1 rfl rfl, Dr.sat drqz, rfl, rfl⟩
end Go.Vl

namespace Go.Vl
open Go Go.Proofs
def kpR (kp : List Int) (i : Nat) : List Int := (kp.take i).map fun x => x % 1000
end Go.Vl

namespace Go.Vl
open Go Go.Proofs
theorem flatG {α : Type} {f : α → List Value} : ∀ {Cs : List (List Value)} {xs : List α} (_ : Cs.length = xs.length) (_ : ∀ i (h : i < xs.length) (h' : i < Cs.length), Cs[i] = f xs[i]), Cs.flatten = xs.flatMap f
  | [], [], _, _ => rfl
  | c :: Cs, x :: xs, hl, h => by
    have h0 := h 0 (by simp) (by simp)
    simp only [List.getElem_cons_zero] at h0
    rw [List.flatten_cons, h0, flatG (f := f) (Cs := Cs) (xs := xs) (by simpa using hl) (fun i hi hi' => h (i + 1) (by simpa using hi) (by simpa using hi')), List.flatMap_cons]
theorem two_ofG {α : Type} : ∀ {l : List α}, l.length = 2 → ∃ a b, l = [a, b]
  | [a, b], _ => ⟨a, b, rfl⟩
theorem four_ofG {α : Type} : ∀ {l : List α}, l.length = 4 → ∃ a b c d, l = [a, b, c, d]
  | [a, b, c, d], _ => ⟨a, b, c, d, rfl⟩
def PXts (A : SP) (cs : List Value) (es : List (Int × Int)) : Prop := ∃ a c, cs = [.slice a es.length c] ∧ es.length ≤ c ∧ es.length ≤ 8796093022208 ∧ Rs A a (xcl es) ∧ ∀ x ∈ es, XW x
/-- One arm of a story. -/
structure Ar1 where
  af : Int
  a : Option Addr
  c : Nat
  kp : List Int
def Ar1.cells (x : Ar1) : List Value := [.int .i64 x.af, .slice x.a x.kp.length x.c]
def PArs (A : SP) (cs : List Value) (p : List Value × List (Int × List Int)) : Prop := ∃ a c, cs = [.slice a p.2.length c] ∧ p.2.length ≤ c ∧ p.2.length ≤ 4398046511104 ∧ RdA A a p.1 p.2 ∧ ∀ x ∈ p.2, (-9223372036854775808 ≤ x.1 ∧ x.1 ≤ 9223372036854775807) ∧ x.2.length ≤ 17592186043904 ∧ ∀ k ∈ x.2, -9223372036854775808 ≤ k ∧ k ≤ 9223372036854775807
/-- One change of a story. -/
structure Chg where
  q : Int
  p : Int
  a : Option Addr
  c : Nat
  b : List Nat
  fl : Bool
  fe : Bool
def Chg.cells (x : Chg) : List Value := [.int .i64 x.q, .int .i64 x.p, .slice x.a x.b.length x.c, .bool x.fl, .bool x.fe]
structure ChgW (A : SP) (x : Chg) : Prop where
  q : (-9223372036854775808 ≤ x.q ∧ x.q ≤ 9223372036854775807)
  p : (-9223372036854775808 ≤ x.p ∧ x.p ≤ 9223372036854775807)
  cap : x.b.length ≤ x.c
  len : x.b.length ≤ 140737488351232
  rs : Rs A x.a (bys x.b)
  by_ : ∀ y ∈ x.b, y < 256
theorem ChgW.left {A X : SP} {x : Chg} (h : ChgW A x) : ChgW (A * X) x := ⟨h.q, h.p, h.cap, h.len, h.rs.left, h.by_⟩
def chl (l : List Chg) : List Value := l.flatMap Chg.cells
def PChs (A : SP) (cs : List Value) (l : List Chg) : Prop := ∃ a c, cs = [.slice a l.length c] ∧ l.length ≤ c ∧ l.length ≤ 2932031007403 ∧ Rs A a (chl l) ∧ ∀ x ∈ l, ChgW A x
/-- A story. -/
structure Stx where
  es : List (Int × Int)
  ch : List Chg
  kvs : List Value
  ars : List (Int × List Int)
  lg : Bool
def PSto (A : SP) (cs : List Value) (t : Stx) : Prop := ∃ v1 v2 v3, cs = [v1, v2, v3, .bool t.lg] ∧ PXts A [v1] t.es ∧ PChs A [v2] t.ch ∧ PArs A [v3] (t.kvs, t.ars)
end Go.Vl

namespace Go.Vl
open Go Go.Proofs
/-! ### One operation of a story -/
/-! ### The state behind a Write, changes, and losses -/
/-- What a story's extents are, brought to where they may be. -/
def XIn (x : Int × Int) : Prop := 1 ≤ x.2 ∧ x.2 ≤ 40 ∧ ((64 ≤ x.1 ∧ x.1 + x.2 ≤ 128) ∨ (512 ≤ x.1 ∧ x.1 + x.2 ≤ 1024))
structure CSt (X : List (Int × Int)) (I : List Nat) (r : Nat) (s : DevS) : Prop where
  ast : AS (oldsL mdI X) I s
  len : s.ls.length = 16
  room : Room r s
/-- The log is empty again. -/
structure Clr (I : List Nat) (s : DevS) : Prop where
  wf : WfD s
  cln : Cln s
  img : imgS s = spl I 128 (le 8 0)
  len : s.ls.length = 16
structure Trn (X : List (Int × Int)) (I : List Nat) (s : DevS) : Prop where
  room : Room 385 s
  ast : (X ≠ [] ∧ AS (oldsL mdI X) I s ∧ s.ls.length = 16) ∨ Clr I s
end Go.Vl

namespace Go.Vl
open Go Go.Proofs
def Ar1.pr (x : Ar1) : Int × List Int := (x.af, x.kp)
def ownR (x : Ar1) : SP := Sl 1 (.slice x.a x.kp.length x.c) x.kp.length (ints x.kp)
/-- An arm, as it may be. -/
def brA (x : Int × List Int) : Int × List Int := (1 + x.1 % 60, x.2.map fun k => k % 1000)
structure ArP (xs : List Ar1) (ars : List (Int × List Int)) : Prop where
  mp : xs.map Ar1.pr = ars.map brA
  cp : ∀ x ∈ xs, x.kp.length ≤ x.c
def ArB (a : Option Addr) (c n : Nat) (xs : List Ar1) : SP := Sl 2 (.slice a n c) n (xs.flatMap Ar1.cells) * Bs ownR xs
end Go.Vl

namespace Go.Vl
open Go Go.Proofs
/-- A change, read: of any length. -/
structure ChgV (A : SP) (x : Chg) : Prop where
  q : -9223372036854775808 ≤ x.q ∧ x.q ≤ 9223372036854775807
  p : -9223372036854775808 ≤ x.p ∧ x.p ≤ 9223372036854775807
  cap : x.b.length ≤ x.c
  rs : Rs A x.a (bys x.b)
  by_ : ∀ y ∈ x.b, y < 256
theorem ChgV.left {A X : SP} {x : Chg} (h : ChgV A x) : ChgV (A * X) x := ⟨h.q, h.p, h.cap, h.rs.left, h.by_⟩
end Go.Vl

namespace Go.Vl
open Go Go.Proofs
def ArOk (ars : List (Int × List Int)) : Prop := ∀ x ∈ ars, (-9223372036854775808 ≤ x.1 ∧ x.1 ≤ 9223372036854775807) ∧ x.2.length ≤ 1099511627776 ∧ ∀ k ∈ x.2, -9223372036854775808 ≤ k ∧ k ≤ 9223372036854775807
end Go.Vl

namespace Go.Vl
open Go Go.Proofs
set_option maxRecDepth 20000 in
theorem rdu_xt (W : World) : Rdu Tryz.prog W 82 (fun cs (x : Int × Int) => cs = xcs x ∧ XW x) (fun _ => 1) := fun H enc sp hd fu cs d pl h => by
  obtain ⟨hl, Ds, hD, hs, hf⟩ := rdu_fields Tryz.underlying82 h
  have hc : Tryz.prog.cellsOf 82 = 2 := by kernel_rfl
  have hci : Tryz.prog.cellsOf 3 = 1 := by kernel_rfl
  rw [hc] at hl
  obtain ⟨x, D0, _, ⟨e0, w0⟩, _⟩ := hf 0 _ rfl (rdu_int Tryz.underlying3)
  obtain ⟨y, D1, _, ⟨e1, w1⟩, _⟩ := hf 1 _ rfl (rdu_int Tryz.underlying3)
  obtain ⟨c0, c1, rfl⟩ := two_ofG hl
  simp [hci] at e0
  simp [hci] at e1
  subst e0 e1
  exact ⟨(x, y), ⟨rfl, ⟨i64_wf w0, i64_wf w1⟩⟩, by simp only []; omega⟩
def PXtU (A : SP) (cs : List Value) (es : List (Int × Int)) : Prop := ∃ a c, cs = [.slice a es.length c] ∧ es.length ≤ c ∧ Rs A a (xcl es) ∧ ∀ x ∈ es, XW x
theorem rdu_xts (W : World) : Rdu Tryz.prog W 47 (PXtU (old W)) (fun es => es.length + 1) :=
  (rdu_slice (k := 2) Tryz.underlying47 kqz (by decide) (rdu_xt W)).mono fun cs xs ⟨a, cap, Cs, e1, hc, hl, hx, hr⟩ => by
    refine ⟨xs, ⟨a, cap, e1, hc, ?_, fun x hx' => ?_⟩, by simp only [szL, sum_ones]; omega⟩
    · rw [show xcl xs = Cs.flatten from (flatG hl (fun i h h' => (hx i h h').2.1)).symm]; exact hr
    · obtain ⟨i, hi, rfl⟩ := List.mem_iff_getElem.1 hx'
      exact (hx i hi oqz).2.2
def PArU (A : SP) (cs : List Value) (p : List Value × List (Int × List Int)) : Prop := ∃ a c, cs = [.slice a p.2.length c] ∧ p.2.length ≤ c ∧ RdA A a p.1 p.2 ∧ ∀ x ∈ p.2, (-9223372036854775808 ≤ x.1 ∧ x.1 ≤ 9223372036854775807) ∧ ∀ k ∈ x.2, -9223372036854775808 ≤ k ∧ k ≤ 9223372036854775807
def PChU (A : SP) (cs : List Value) (l : List Chg) : Prop := ∃ a c, cs = [.slice a l.length c] ∧ l.length ≤ c ∧ Rs A a (chl l) ∧ ∀ x ∈ l, ChgV A x
def PStU (A : SP) (cs : List Value) (t : Stx) : Prop := ∃ v1 v2 v3, cs = [v1, v2, v3, .bool t.lg] ∧ PXtU A [v1] t.es ∧ PChU A [v2] t.ch ∧ PArU A [v3] (t.kvs, t.ars)
def Stx.sz (t : Stx) : Nat := t.es.length + (t.ch.map fun x => x.b.length + 1).sum + (t.ars.map fun x => x.2.length + 1).sum
end Go.Vl

namespace Go.Vl
open Go Go.Proofs
/-- A slice v of n elements of k cells, and what it was grown to, v', of m: within one block, or apart. -/
def GrK (k : Nat) (v : Value) (n : Nat) (xs : List Value) (v' : Value) (m : Nat) (ys : List Value) : SP := fun h =>
  (∃ a c, v = .slice a n c ∧ v' = .slice a m c ∧ n ≤ m ∧ xs = ys.take (n * k) ∧ Sl k v' m ys h) ∨ (Sl k v n xs * Sl k v' m ys) h
/-! ### Two lists in turns -/
def ilv {α : Type} : List α → List α → List α
  | x :: xs, y :: ys => x :: y :: ilv xs ys
  | _, _ => []
end Go.Vl

namespace Go.Vl
open Go Go.Proofs
def pc (x : Int × Value) : List Value := [.int .i64 x.1, x.2]
def pcl (l : List (Int × Value)) : List Value := l.flatMap pc
def rpl (n : Nat) (k : Int) : List (Int × Value) := List.replicate n (k, .slice none 0 0)
def kz : List (Nat × List Nat) → List Value → List (Int × Value)
  | x :: l, v :: vs => ((x.1 : Nat), v) :: kz l vs
  | _, _ => []
end Go.Vl

namespace Go.Vl
open Go Go.Proofs
attribute [local irreducible] crk crL crc Sl pt ro Dev imgS recS readS recsF rdW rdO rkT Parts rvl recordsS mdI mdK rise mds writeS rollS clearS oldsL kcl xcl RDev
theorem rRound8_c {A : SP} {n : Nat} (hn : n ≤ 9223372036854775807 := by omega) :
    Fn Tryz.prog 101 #[.int .i64 (n : Nat), .int .i64 8] (A) (fun r B => r = .tuple #[.int .i64 (rndS n).1, .int .i64 (rndS n).2] ∧ A = B) := by
  refine fn_enterW (args := [.int .i64 (n : Nat), .int .i64 8]) Tryz.func101 rfl Tryz.ntmps101 (by simp) ?_
  have hp8 : pad8 n < 8 := by unfold pad8; omega
  refine sr ?_; refine tla ?_; refine tla ?_; refine nq ?_; refine tc_seq ?_; refine sr ?_; refine tlm ?_; refine tv (o_lss rfl rfl) ?_; refine tlm ?_; refine tl_bool (d := 9) rfl (fun h => ?_) (fun h => ?_)
  · exfalso; first | (simp at h; done) | (simp at h; omega)
  · try simp only [lv1, lv2, lv3, lv4, lv5, lv6, Bool.not_true, Bool.not_false] at h
    refine tlm ?_; refine tv (o_lss rfl rfl) ?_; refine tv (o_pick_f rfl (by conv => lhs; whnf)) ?_; refine nq ?_; refine tc_cond rfl (fun h => ?_) (fun h => ?_)
    · exfalso; simp at h
    · try simp only [lv1, lv2, lv3, lv4, lv5, lv6, Bool.not_true, Bool.not_false] at h
      refine tc_skip ?_; refine q_then_n ?_; refine sr ?_; refine tlm ?_; refine tlm ?_; refine tv (o_remN (b := 8) rfl rfl (by decide)) ?_; refine tl_env (d := 15) (v := .int .i64 ((n % 8 : Nat) : Int)) (rfl) ?_; refine tla ?_; refine nq ?_; refine tc_seq ?_; refine sr ?_; refine tlm ?_; refine tv (o_eqi rfl rfl) ?_; refine nq ?_; refine tc_cond rfl (fun h => ?_) (fun h => ?_)
      · have g17 : n % 8 = 0 := by first | (have h9 := of_decide_eq_true h; omega) | (simp at h; omega)
        refine sr ?_; refine tlm ?_; refine tla ?_; refine tla ?_; refine nq ?_; refine tc_ret ?_; refine q_then_r ?_
        have e : rndS n = ((n : Int), 0) := by unfold rndS up8; have : pad8 n = 0 := (by unfold pad8; omega); rw [this, if_neg oqz]; rfl
        rw [e]
        exact ⟨.tuple #[.int .i64 (n : Nat), .int .i64 0], A, res2 rfl rfl rfl, Dr.sat drqz, rfl, rfl⟩
      · have g17 : ¬ n % 8 = 0 := by first | (have h9 := of_decide_eq_false h; omega) | (simp at h; omega)
        have hpp : pad8 n = 8 - n % 8 := by unfold pad8; omega
        refine tc_skip ?_; refine q_then_n ?_; refine tc_seq ?_; refine sr ?_; refine tlm ?_; refine tlm ?_; refine tlm ?_; refine tv (o_subI rfl rfl oqz) ?_; refine tv (o_subI rfl rfl oqz) ?_; refine tv (o_gtr rfl rfl) ?_; refine nq ?_; refine tc_cond rfl (fun h => ?_) (fun h => ?_)
        · have g24 : 9223372036854775807 < n + pad8 n := by first | (have h9 := of_decide_eq_true h; omega) | (simp at h; omega)
          refine sr ?_; refine tla ?_; refine tla ?_; refine nq ?_; refine tc_ret ?_; refine q_then_r ?_
          have e : rndS n = (0, 2) := by unfold rndS; rw [if_pos g24]
          rw [e]
          exact ⟨.tuple #[.int .i64 0, .int .i64 2], A, res2 rfl rfl rfl, Dr.sat drqz, rfl, rfl⟩
        · have g24 : ¬ 9223372036854775807 < n + pad8 n := by first | (have h9 := of_decide_eq_false h; omega) | (simp at h; omega)
          refine tc_skip ?_; refine q_then_n ?_; refine sr ?_; refine tlm ?_; refine tlm ?_; refine tlm ?_; refine tv (o_subI rfl rfl oqz) ?_; refine tv (o_addI rfl rfl oqz) ?_; refine tl_env (d := 29) (v := .int .i64 ((up8 n : Nat) : Int)) (by show Value.int .i64 ((n : Int) + (8 - ((n % 8 : Nat) : Int))) = _; congr 1; unfold up8; omega) ?_; refine tla ?_; refine tla ?_; refine nq ?_; refine tc_ret ?_
          have e : rndS n = (((up8 n : Nat) : Int), 0) := by unfold rndS; rw [if_neg g24]
          rw [e]
          exact ⟨.tuple #[.int .i64 ((up8 n : Nat) : Int), .int .i64 0], A, res2 rfl rfl rfl, Dr.sat drqz, rfl, rfl⟩
theorem rNeed_c {A : SP} {a : Option Addr} {c m : Nat} {xs : List Int} (hr : Rs A a (ints xs) := by repeat (first | assumption | with_reducible exact rs_sl | with_reducible exact rs_pt0 | exact rs_none | apply Rs.left)) (hm : xs.length = m := by first | assumption | rfl) (hx : ∀ x ∈ xs, -9223372036854775808 ≤ x ∧ x ≤ 9223372036854775807 := by assumption) (hml : m ≤ 4611686018427387904 := by omega) :
    Fn Tryz.prog 72 #[.slice a m c] (A) (fun r B => r = .tuple #[.int .i64 (needS xs).1, .int .i64 (needS xs).2] ∧ A = B) := by
  refine fn_enterW (args := [.slice a m c]) Tryz.func72 rfl Tryz.ntmps72 (by simp) ?_; refine sr ?_; refine tla ?_; refine tla ?_; refine nq ?_; refine sr ?_; refine tla ?_; refine nq ?_; refine tc_seq ?_; refine sr ?_; refine tla ?_; refine nq ?_; refine tc_block ?_; refine tc_loop (fun kk ρ BB => ∃ (i : Nat) (sm : Int), (i ≤ m) ∧ (needF (xs.drop i) sm = needS xs) ∧ (0 ≤ sm ∧ sm ≤ 9223372036854775807) ∧ kk = m - i ∧ ρ 4 = .int .i64 sm ∧ ρ 5 = .int .i64 (i : Nat) ∧ ρ 0 = .slice a m c ∧ BB = A) (m := m - (0)) ?_ ?_
  · exact ⟨0, 0, by omega, rfl, by omega, rfl, rfl, rfl, rfl, rfl⟩
  · intro k ρ B hI
    obtain ⟨i, sm, hp0, hp1, hp2, hkk1, hE4, hE5, hE0, hBA⟩ := hI
    obtain rfl := hBA.symm
    refine tc_env (d := 4) hE4 ?_; refine tc_env (d := 5) hE5 ?_; refine tc_env (d := 0) hE0 ?_
    clear hE4 hE5 hE0
    refine tc_seq ?_; refine sr ?_; refine tlm ?_; refine tlm ?_; refine tv (o_len Tryz.underlying48 rfl) ?_; refine tv (o_lss rfl rfl) ?_; refine nq ?_; refine tc_cond rfl (fun h => ?_) (fun h => ?_)
    · have hi : i < xs.length := by first | omega | (simp at h; omega)
      obtain ⟨x, hx1⟩ : ∃ x, xs[i] = x := ⟨_, rfl⟩
      have hxb := hx x (hx1 ▸ List.getElem_mem hi)
      have hnd := needF_drop hi sm
      rw [hx1] at hnd
      obtain ⟨hsm0, hsm1⟩ := hp2
      refine tc_skip ?_; refine q_then_n ?_; refine tc_seq ?_; refine tc_block ?_; refine tc_seq ?_; refine sr ?_; refine tlm ?_; refine tlm ?_; refine tv (o_ixP1 Tryz.underlying48 sz3 rfl rfl oqz (nn_rs hr (by rw [ints_length]; omega))) ?_; refine tv (o_ldP p3 rfl hr (ints_at hi)) ?_; refine tl_env (d := 17) (v := .int .i64 x) (by show Value.int .i64 xs[i] = _; rw [hx1]) ?_; refine tv (o_lss rfl rfl) ?_; refine nq ?_; refine tc_cond rfl (fun h => ?_) (fun h => ?_)
      · have g18 : (x < 1) := by first | exact of_decide_eq_true h | (have h2 := h; simp at h2; omega) | simpa using h
        refine sr ?_; refine tla ?_; refine tla ?_; refine nq ?_; refine tc_ret ?_; refine q_then_r (q_block_r (q_then_r (q_then_r (q_block_r (q_then_r ?_)))))
        have e : needS xs = (0, 2) := by rw [← hp1, hnd]; first | exact needF_bad g18 | rw [needF_cons hq1, if_pos hng]
        rw [e]
        exact ⟨.tuple #[.int .i64 0, .int .i64 2], A, res2 rfl rfl rfl, Dr.sat drqz, rfl, rfl⟩
      · have g18 : ¬ (x < 1) := by first | exact of_decide_eq_false h | (have h2 := h; simp at h2; omega) | simpa using h
        refine tc_skip ?_; refine q_then_n ?_; refine tc_seq ?_
        obtain ⟨q, rfl⟩ := Int.eq_ofNat_of_zero_le (show 0 ≤ x by omega)
        have hq1 : 1 ≤ q := by omega
        have hqr : (rndS q).1 ≤ 9223372036854775807 ∧ 0 ≤ (rndS q).1 := by unfold rndS up8; split <;> simp <;> omega
        refine tc_reg ?_; refine tlm ?_; refine tlm ?_; refine tv (o_ixP1 Tryz.underlying48 sz3 rfl rfl oqz (nn_rs hr (by rw [ints_length]; omega))) ?_; refine tv (o_ldP p3 rfl hr (ints_at hi)) ?_; refine tl_env (d := 23) (v := .int .i64 ((q : Nat) : Int)) (by show Value.int .i64 xs[i] = _; rw [hx1]) ?_; refine tl_c rfl (o_call bd101 rfl (rRound8_c (n := q))) ?_; rintro _ _ ⟨rfl, rfl⟩; refine tlm ?_; refine tv (o_extract rfl rfl) ?_; refine tv (o_extract rfl rfl) ?_; refine tla ?_; refine tla ?_; refine nq ?_; refine tc_seq ?_; refine tc_seq ?_; refine tc_cut (fun ρ BB => ∃ (bb : Bool), (bb = decide ((rndS q).2 ≠ 0 ∨ 9223372036854775807 - 24 - sm < (rndS q).1)) ∧ ρ 34 = .bool bb ∧ ρ 0 = .slice a m c ∧ ρ 4 = .int .i64 sm ∧ ρ 5 = .int .i64 (i : Nat) ∧ ρ 6 = .int .i64 (rndS q).1 ∧ BB = A) ?_ ?_
        · skip
          refine tc_reg ?_; refine tlm ?_; refine tv (o_nei rfl rfl) ?_; refine tlm ?_; refine tl_bool (d := 29) rfl (fun h => ?_) (fun h => ?_)
          · have hng : (rndS q).2 ≠ 0 ∨ 9223372036854775807 - 24 - sm < (rndS q).1 := .inl (by first | exact of_decide_eq_true h | (simp at h; omega))
            refine tk ?_; refine tk ?_; refine tk ?_; refine tk ?_; refine tv (o_pick_t rfl (by conv => lhs; whnf)) ?_; refine tl_nil ?_; exact ⟨_, by first | exact (decide_eq_true oqz).symm | exact (decide_eq_false oqz).symm | (rw [decide_eq_decide]; omega), rfl, rfl, rfl, rfl, rfl, rfl⟩
          · have h24 : (rndS q).2 = 0 := by first | (have h9 := of_decide_eq_false h; omega) | (simp at h; omega)
            refine tlm ?_; refine tlm ?_; refine tv (o_subI rfl rfl oqz) ?_; refine tv (o_gtr rfl rfl) ?_; refine tv (o_pick_f rfl (by conv => lhs; whnf)) ?_; refine tl_nil ?_; exact ⟨_, by first | exact (decide_eq_true oqz).symm | exact (decide_eq_false oqz).symm | (rw [decide_eq_decide]; omega), rfl, rfl, rfl, rfl, rfl, rfl⟩
        · intro ρ B hI
          obtain ⟨bb, hbb0, hE34, hE0, hE4, hE5, hE6, hBA⟩ := hI
          obtain rfl := hBA.symm
          refine q_then_n ?_; refine tc_env (d := 34) hE34 ?_; refine tc_env (d := 0) hE0 ?_; refine tc_env (d := 4) hE4 ?_; refine tc_env (d := 5) hE5 ?_; refine tc_env (d := 6) hE6 ?_
          clear hE34 hE0 hE4 hE5 hE6
          refine tc_cond rfl (fun h => ?_) (fun h => ?_)
          · have hng := of_decide_eq_true (show decide ((rndS q).2 ≠ 0 ∨ 9223372036854775807 - 24 - sm < (rndS q).1) = true by rw [← hbb0]; exact h)
            refine sr ?_; refine tla ?_; refine tla ?_; refine nq ?_; refine tc_ret ?_; refine q_then_r (q_block_r (q_then_r (q_then_r (q_block_r (q_then_r ?_)))))
            have e : needS xs = (0, 2) := by rw [← hp1, hnd]; first | exact needF_bad g18 | rw [needF_cons hq1, if_pos hng]
            rw [e]
            exact ⟨.tuple #[.int .i64 0, .int .i64 2], A, res2 rfl rfl rfl, Dr.sat drqz, rfl, rfl⟩
          · have hng := of_decide_eq_false (show decide ((rndS q).2 ≠ 0 ∨ 9223372036854775807 - 24 - sm < (rndS q).1) = false by rw [← hbb0]; exact h)
            refine tc_skip ?_; refine q_then_n ?_; refine tc_reg ?_; refine tlm ?_; refine tv (o_addI rfl rfl oqz) ?_; refine tlm ?_; refine tv (o_addI rfl rfl oqz) ?_; refine tla ?_; refine tl_nil ?_; refine q_block_n (q_then_n ?_); refine tc_reg ?_; refine tlm ?_; refine tv adqz ?_; refine tla ?_; refine nq ?_; exact ⟨_, by omega, i + 1, _, by omega, by rw [← hp1, hnd, needF_cons hq1, if_neg hng], by omega, rfl, rfl, rfl, rfl, rfl⟩
    · obtain rfl : i = m := by first | omega | (simp at h; omega)
      refine tc_exit ?_; refine q_then_e (q_then_e (q_block_x (q_then_n ?_))); refine sr ?_; refine tlm ?_; refine tla ?_; refine tla ?_; refine nq ?_; refine tc_ret ?_
      have e : needS xs = (sm, 0) := by rw [← hp1, List.drop_eq_nil_of_le oqz]; rfl
      rw [e]
      exact ⟨.tuple #[.int .i64 sm, .int .i64 0], A, res2 rfl rfl rfl, Dr.sat drqz, rfl, rfl⟩
theorem rOpen_okf (A : SP) {r : Nat} {lv av : Value} {rls : List RL} {s : DevS} (hR : RdevR A r lv rls av s) {p q : Int} (hp : -9223372036854775808 ≤ p ∧ p ≤ 9223372036854775807) (hq : -9223372036854775808 ≤ q ∧ q ≤ 9223372036854775807) (hok : (64 ≤ p ∧ p % 64 = 0 ∧ 128 ≤ q ∧ q % 64 = 0 ∧ p ≤ (s.ls.length : Int) * 64 ∧ q ≤ (s.ls.length : Int) * 64 - p)) :
    Fn Tryz.prog 10 #[.pointer (some ⟨r, 0, none⟩), .int .i64 p, .int .i64 q] (A) (fun v B => ∃ X, B = A * X ∧ ∃ b, v = .tuple #[.pointer (some ⟨b, 0, none⟩), .int .i64 0] ∧ X = pt b (cl [.pointer (some ⟨r, 0, none⟩), .int .i64 p, .int .i64 q] 96)) := by
  refine fn_enterW (args := [.pointer (some ⟨r, 0, none⟩), .int .i64 p, .int .i64 q]) Tryz.func10 rfl Tryz.ntmps10 (by simp) ?_
  have htop := hR.wf.top
  refine sr ?_; refine tla ?_; refine tla ?_; refine nq ?_; refine tc_seq ?_; refine sr ?_; refine tlm ?_; refine tv (o_eqp Tryz.underlying33 rfl rfl) ?_; refine nq ?_; refine tc_cond rfl (fun h => ?_) (fun h => ?_)
  · exfalso; simp at h
  · try simp only [lv1, lv2, lv3, lv4, lv5, lv6, Bool.not_true, Bool.not_false] at h
    refine tc_skip ?_; refine q_then_n ?_; refine tc_seq ?_; refine tc_seq ?_; refine tc_cut (fun ρ BB => ∃ (bb : Bool), (bb = decide (¬ (64 ≤ p ∧ p % 64 = 0 ∧ 128 ≤ q ∧ q % 64 = 0 ∧ p ≤ (s.ls.length : Int) * 64 ∧ q ≤ (s.ls.length : Int) * 64 - p))) ∧ ρ 43 = .bool bb ∧ ρ 0 = .pointer (some ⟨r, 0, none⟩) ∧ ρ 1 = .int .i64 p ∧ ρ 2 = .int .i64 q ∧ BB = A) ?_ ?_
    · skip
      refine tc_reg ?_; refine tlm ?_; refine tv (o_lss rfl rfl) ?_; refine tlm ?_; refine tl_bool (d := 12) rfl (fun h => ?_) (fun h => ?_)
      · have g12 : (p < 64) := by first | exact of_decide_eq_true h | (have h2 := h; simp at h2; omega) | simpa using h
        refine tk ?_; refine tk ?_; refine tk ?_; refine tv (o_pick_t rfl (by conv => lhs; whnf)) ?_; refine tlm ?_; refine tk ?_; refine tk ?_; refine tv (o_pick_t rfl (by conv => lhs; whnf)) ?_; refine tlm ?_; refine tk ?_; refine tk ?_; refine tk ?_; refine tv (o_pick_t rfl (by conv => lhs; whnf)) ?_; refine tlm ?_; refine tk ?_; refine tk ?_; refine tk ?_; refine tk ?_; refine tk ?_; refine tk ?_; refine tv (o_pick_t rfl (by conv => lhs; whnf)) ?_; refine tlm ?_; refine tk ?_; refine tk ?_; refine tk ?_; refine tk ?_; refine tk ?_; refine tk ?_; refine tk ?_; refine tk ?_; refine tv (o_pick_t rfl (by conv => lhs; whnf)) ?_; refine tl_nil ?_; exact ⟨_, by first | exact (decide_eq_true oqz).symm | exact (decide_eq_false oqz).symm | (rw [decide_eq_decide]; omega), rfl, rfl, rfl, rfl, rfl⟩
      · have g12 : ¬ (p < 64) := by first | exact of_decide_eq_false h | (have h2 := h; simp at h2; omega) | simpa using h
        refine tlm ?_; refine tv (by first | exact o_remI rfl rfl oqz | exact o_rem rfl rfl oqz) ?_; refine tv (o_nei rfl rfl) ?_; refine tv (o_pick_f rfl (by conv => lhs; whnf)) ?_; refine tlm ?_; refine tl_bool (d := 17) rfl (fun h => ?_) (fun h => ?_)
        · have g17 : (p < 64 ∨ p % 64 ≠ 0) := by first | exact of_decide_eq_true h | (have h2 := h; simp at h2; omega) | simpa using h
          refine tk ?_; refine tk ?_; refine tv (o_pick_t rfl (by conv => lhs; whnf)) ?_; refine tlm ?_; refine tk ?_; refine tk ?_; refine tk ?_; refine tv (o_pick_t rfl (by conv => lhs; whnf)) ?_; refine tlm ?_; refine tk ?_; refine tk ?_; refine tk ?_; refine tk ?_; refine tk ?_; refine tk ?_; refine tv (o_pick_t rfl (by conv => lhs; whnf)) ?_; refine tlm ?_; refine tk ?_; refine tk ?_; refine tk ?_; refine tk ?_; refine tk ?_; refine tk ?_; refine tk ?_; refine tk ?_; refine tv (o_pick_t rfl (by conv => lhs; whnf)) ?_; refine tl_nil ?_; exact ⟨_, by first | exact (decide_eq_true oqz).symm | exact (decide_eq_false oqz).symm | (rw [decide_eq_decide]; omega), rfl, rfl, rfl, rfl, rfl⟩
        · have g17 : ¬ (p < 64 ∨ p % 64 ≠ 0) := by first | exact of_decide_eq_false h | (have h2 := h; simp at h2; omega) | simpa using h
          refine tlm ?_; refine tv (o_lss rfl rfl) ?_; refine tv (o_pick_f rfl (by conv => lhs; whnf)) ?_; refine tlm ?_; refine tl_bool (d := 21) rfl (fun h => ?_) (fun h => ?_)
          · have g21 : (p < 64 ∨ p % 64 ≠ 0 ∨ q < 128) := by first | exact of_decide_eq_true h | (have h2 := h; simp at h2; omega) | simpa using h
            refine tk ?_; refine tk ?_; refine tk ?_; refine tv (o_pick_t rfl (by conv => lhs; whnf)) ?_; refine tlm ?_; refine tk ?_; refine tk ?_; refine tk ?_; refine tk ?_; refine tk ?_; refine tk ?_; refine tv (o_pick_t rfl (by conv => lhs; whnf)) ?_; refine tlm ?_; refine tk ?_; refine tk ?_; refine tk ?_; refine tk ?_; refine tk ?_; refine tk ?_; refine tk ?_; refine tk ?_; refine tv (o_pick_t rfl (by conv => lhs; whnf)) ?_; refine tl_nil ?_; exact ⟨_, by first | exact (decide_eq_true oqz).symm | exact (decide_eq_false oqz).symm | (rw [decide_eq_decide]; omega), rfl, rfl, rfl, rfl, rfl⟩
          · have g21 : ¬ (p < 64 ∨ p % 64 ≠ 0 ∨ q < 128) := by first | exact of_decide_eq_false h | (have h2 := h; simp at h2; omega) | simpa using h
            refine tlm ?_; refine tv (by first | exact o_remI rfl rfl oqz | exact o_rem rfl rfl oqz) ?_; refine tv (o_nei rfl rfl) ?_; refine tv (o_pick_f rfl (by conv => lhs; whnf)) ?_; refine tlm ?_; refine tl_bool (d := 26) rfl (fun h => ?_) (fun h => ?_)
            · have g26 : (p < 64 ∨ p % 64 ≠ 0 ∨ q < 128 ∨ q % 64 ≠ 0) := by first | exact of_decide_eq_true h | (have h2 := h; simp at h2; omega) | simpa using h
              refine tk ?_; refine tk ?_; refine tk ?_; refine tk ?_; refine tk ?_; refine tk ?_; refine tv (o_pick_t rfl (by conv => lhs; whnf)) ?_; refine tlm ?_; refine tk ?_; refine tk ?_; refine tk ?_; refine tk ?_; refine tk ?_; refine tk ?_; refine tk ?_; refine tk ?_; refine tv (o_pick_t rfl (by conv => lhs; whnf)) ?_; refine tl_nil ?_; exact ⟨_, by first | exact (decide_eq_true oqz).symm | exact (decide_eq_false oqz).symm | (rw [decide_eq_decide]; omega), rfl, rfl, rfl, rfl, rfl⟩
            · have g26 : ¬ (p < 64 ∨ p % 64 ≠ 0 ∨ q < 128 ∨ q % 64 ≠ 0) := by first | exact of_decide_eq_false h | (have h2 := h; simp at h2; omega) | simpa using h
              refine tlm ?_; refine tlm ?_; refine tv (o_nilCheck rfl) ?_; refine tv (o_fieldAddr (o := 0) Tryz.underlying55 rfl rfl sz3 rfl) ?_; refine tv (o_ldP (a := some ⟨r, 0, none⟩) (i := 0) p3 rfl (by repeat (first | exact hR.d | apply Rs.left)) rfl) ?_; refine tl_env (d := 31) (v := .int .i64 ((s.ls.length : Int) * 64)) (by show Value.int .i64 ((s.ls.length * 64 : Nat) : Int) = _; congr 1) ?_; refine tv (o_gtr rfl rfl) ?_; refine tv (o_pick_f rfl (by conv => lhs; whnf)) ?_; refine tlm ?_; refine tl_bool (d := 34) rfl (fun h => ?_) (fun h => ?_)
              · have g34 : (p < 64 ∨ p % 64 ≠ 0 ∨ q < 128 ∨ q % 64 ≠ 0 ∨ (s.ls.length : Int) * 64 < p) := by first | exact of_decide_eq_true h | (have h2 := h; simp at h2; omega) | simpa using h
                refine tk ?_; refine tk ?_; refine tk ?_; refine tk ?_; refine tk ?_; refine tk ?_; refine tk ?_; refine tk ?_; refine tv (o_pick_t rfl (by conv => lhs; whnf)) ?_; refine tl_nil ?_; exact ⟨_, by first | exact (decide_eq_true oqz).symm | exact (decide_eq_false oqz).symm | (rw [decide_eq_decide]; omega), rfl, rfl, rfl, rfl, rfl⟩
              · have g34 : ¬ (p < 64 ∨ p % 64 ≠ 0 ∨ q < 128 ∨ q % 64 ≠ 0 ∨ (s.ls.length : Int) * 64 < p) := by first | exact of_decide_eq_false h | (have h2 := h; simp at h2; omega) | simpa using h
                refine tlm ?_; refine tlm ?_; refine tv (o_nilCheck rfl) ?_; refine tv (o_fieldAddr (o := 0) Tryz.underlying55 rfl rfl sz3 rfl) ?_; refine tv (o_ldP (a := some ⟨r, 0, none⟩) (i := 0) p3 rfl (by repeat (first | exact hR.d | apply Rs.left)) rfl) ?_; refine tl_env (d := 39) (v := .int .i64 ((s.ls.length : Int) * 64)) (by show Value.int .i64 ((s.ls.length * 64 : Nat) : Int) = _; congr 1) ?_; refine tlm ?_; refine tv (o_subI rfl rfl oqz) ?_; refine tv (o_gtr rfl rfl) ?_; refine tv (o_pick_f rfl (by conv => lhs; whnf)) ?_; refine tl_nil ?_; exact ⟨_, by first | exact (decide_eq_true oqz).symm | exact (decide_eq_false oqz).symm | (rw [decide_eq_decide]; omega), rfl, rfl, rfl, rfl, rfl⟩
    · intro ρ B hI
      obtain ⟨bb, hbb0, hE43, hE0, hE1, hE2, hBA⟩ := hI
      obtain rfl := hBA.symm
      refine q_then_n ?_; refine tc_env (d := 43) hE43 ?_; refine tc_env (d := 0) hE0 ?_; refine tc_env (d := 1) hE1 ?_; refine tc_env (d := 2) hE2 ?_
      clear hE43 hE0 hE1 hE2
      refine tc_cond rfl (fun h => ?_) (fun h => ?_)
      · exfalso; rw [h] at hbb0; have := of_decide_eq_true hbb0.symm; omega
      · try simp only [lv1, lv2, lv3, lv4, lv5, lv6, Bool.not_true, Bool.not_false] at h
        refine tc_skip ?_; refine q_then_n ?_; refine sr ?_; refine tlm ?_; refine tlm ?_; refine tlm ?_; refine tv (o_bS (l := [_, _, _]) (pv_cons (by conv => lhs; whnf) (pv_cons (by conv => lhs; whnf) (pv_cons (by conv => lhs; whnf) pv_nil))) Tryz.underlying96 z96 (pl96 Tryz.underlying96) rfl) ?_; refine tl_x rfl (o_box rfl rfl) ?_; rintro _ _ ⟨b48, rfl, rfl⟩; refine tla ?_; refine tla ?_; refine nq ?_; refine tc_ret ?_; exact ⟨_, _, res2 rfl rfl rfl, fun _ _ h => h, _, rfl, b48, rfl, rfl⟩
theorem rOpen_ok {A R : SP} {C : SP → SP} {r : Nat} {s : DevS} (hc : Ct A (RDev r s) R C := by repeat (first | with_reducible exact ct_here | apply ct_left)) {p q : Int} (hp : -9223372036854775808 ≤ p ∧ p ≤ 9223372036854775807) (hq : -9223372036854775808 ≤ q ∧ q ≤ 9223372036854775807) (hok : (64 ≤ p ∧ p % 64 = 0 ∧ 128 ≤ q ∧ q % 64 = 0 ∧ p ≤ (s.ls.length : Int) * 64 ∧ q ≤ (s.ls.length : Int) * 64 - p) := by omega) : Fn Tryz.prog 10 #[.pointer (some ⟨r, 0, none⟩), .int .i64 p, .int .i64 q] A (fun v B => ∃ b, v = .tuple #[.pointer (some ⟨b, 0, none⟩), .int .i64 0] ∧ B = A * pt b (cl [.pointer (some ⟨r, 0, none⟩), .int .i64 p, .int .i64 q] 96)) := by
  obtain ⟨rfl, _⟩ := hc
  intro g w hs
  refine (fn_rdevR (fun A lv rls av hR => rOpen_okf A hR hp hq hok) g w hs).mono ?_; rintro e w' ⟨v, B, e1, ⟨X, rfl, b, rfl, rfl⟩, hB⟩; exact ⟨_, _, e1, ⟨b, rfl, rfl⟩, hB⟩
end Go.Vl

namespace Go.Vl
open Go Go.Proofs
theorem cellR0 {R : SP} {r : Nat} {s : DevS} : Cell (R * RDev r s) r 0 (.int .i64 ((s.ls.length * 64 : Nat) : Int)) := fun g w hs => by
  obtain ⟨hw, lv, rls, av, kvs, h1, h2, hs'⟩ := rdev_iff.1 hs
  obtain ⟨b, o, e, h⟩ := (rdevR_of hw h1 hs').d g w hs' 0 _ rfl
  simp only [Option.some.injEq, Addr.mk.injEq, and_true] at e
  obtain ⟨rfl, rfl⟩ := e
  exact h
theorem cellR5 {R : SP} {r : Nat} {s : DevS} : Cell (R * RDev r s) r 5 (.bool s.off) := fun g w hs => by
  obtain ⟨hw, lv, rls, av, kvs, h1, h2, hs'⟩ := rdev_iff.1 hs
  obtain ⟨b, o, e, h⟩ := (rdevR_of hw h1 hs').d g w hs' 5 _ rfl
  simp only [Option.some.injEq, Addr.mk.injEq, and_true] at e
  obtain ⟨rfl, rfl⟩ := e
  exact h
/-- The numbers from q on. -/
def lnK (q k : Nat) : List Int := (List.range k).map fun j => ((q + j : Nat) : Int)
theorem lnK_len (q k : Nat) : (lnK q k).length = k := by simp [lnK]
theorem lnK_succ (q k : Nat) : lnK q (k + 1) = lnK q k ++ [((q + k : Nat) : Int)] := by simp [lnK, List.range_succ]
theorem lnK_at {q k i : Nat} (h : i < k) : (ints (lnK q k))[i]? = some (.int .i64 ((q + i : Nat) : Int)) := by
  unfold lnK ints; simp [h]; rfl
theorem pub_e1 {p v : Nat} {s s1 : DevS} {e : Int} (h : st8 (p : Nat) v s = (e, s1)) (he : e ≠ 0) : pubP (p : Nat) v s = (e, s1) := by
  unfold pubP; rw [h, if_pos he]
theorem pub_last {p v : Nat} {s s1 : DevS} (hp : p % 64 = 0) (h : st8 (p : Nat) v s = (0, s1)) : pubP (p : Nat) v s = flF 1 (p / 64) s1 := by
  unfold pubP; rw [h, if_neg (by simp)]; unfold lastS
  rw [Int.toNat_natCast]; congr 1; omega
theorem pub_e2 {p v : Nat} {s s1 s2 : DevS} {e : Int} (hp : p % 64 = 0) (h : st8 (p : Nat) v s = (0, s1)) (h2 : fl1 (p : Nat) s1 = (e, s2)) (he : e ≠ 0) : pubP (p : Nat) v s = (e, s2) := by
  rw [pub_last hp h]
  show (if (fl1 ((p / 64 * 64 : Nat) : Int) s1).1 ≠ 0 then fl1 ((p / 64 * 64 : Nat) : Int) s1 else _) = _
  rw [show p / 64 * 64 = p by omega, h2, if_pos he]
theorem pub_o {p v : Nat} {s s1 s2 s3 : DevS} {e : Int} (hp : p % 64 = 0) (h : st8 (p : Nat) v s = (0, s1)) (h2 : fl1 (p : Nat) s1 = (0, s2)) (h3 : fe s2 = (e, s3)) : pubP (p : Nat) v s = (e, s3) := by
  rw [pub_last hp h]
  show (if (fl1 ((p / 64 * 64 : Nat) : Int) s1).1 ≠ 0 then fl1 ((p / 64 * 64 : Nat) : Int) s1 else flF 0 (p / 64 + 1) (fl1 ((p / 64 * 64 : Nat) : Int) s1).2) = _
  rw [show p / 64 * 64 = p by omega, h2, if_neg (by simp), flF_zero, h3]
theorem flX_e {N i q : Nat} {s s2 : DevS} {e : Int} (hi : i < N) (h : fl1 (((q + i) * 64 : Nat) : Int) s = (e, s2)) (he : e ≠ 0) : flL (N - i) (q + i) s = (e, s2) := by
  rw [show N - i = (N - (i + 1)) + 1 by omega]
  show (if _ then _ else _) = _
  rw [h, if_pos he]
theorem flX_o {N i q : Nat} {s s2 : DevS} (hi : i < N) (h : fl1 (((q + i) * 64 : Nat) : Int) s = (0, s2)) : flL (N - i) (q + i) s = flL (N - (i + 1)) (q + (i + 1)) s2 := by
  rw [show N - i = (N - (i + 1)) + 1 by omega]
  show (if _ then _ else _) = _
  rw [h, if_neg (by simp)]; rfl
attribute [local irreducible] crk crL crc Sl pt ro Dev RDev imgS recS
theorem Take8R_c {A : SP} {a : Option Addr} {c : Nat} {xs : List Nat} (hr : Rs A a (bys xs) := by repeat (first | assumption | with_reducible exact rs_sl | with_reducible exact rs_pt0 | exact rs_none | apply Rs.left)) (hm : xs.length = 8 := by first | assumption | rfl) (hb : ∀ x ∈ xs, x < 256 := by assumption) :
    Fn Tryz.prog 100 #[.slice a 8 c, .int .i64 0, .int .i64 8] (A) (fun v B => v = .tuple #[.int .u64 ((nm xs : Nat) : Int), .int .i64 0] ∧ A = B) := by
  refine fn_enterW (args := [.slice a 8 c, .int .i64 0, .int .i64 8]) Tryz.func100 rfl Tryz.ntmps100 (by simp) ?_; refine sr ?_; refine tla ?_; refine tla ?_; refine nq ?_; refine tc_seq ?_; refine sr ?_; refine tlm ?_; refine tv (o_lss rfl rfl) ?_; refine tlm ?_; refine tl_bool (d := 12) rfl (fun h => ?_) (fun h => ?_)
  · exfalso; simp at h
  · try simp only [lv1, lv2, lv3, lv4, lv5, lv6, Bool.not_true, Bool.not_false] at h
    refine tlm ?_; refine tlm ?_; refine tv (o_len Tryz.underlying22 rfl) ?_; refine tv (o_gtr rfl rfl) ?_; refine tv (o_pick_f rfl (by conv => lhs; whnf)) ?_; refine tlm ?_; refine tl_bool (d := 18) rfl (fun h => ?_) (fun h => ?_)
    · exfalso; simp at h
    · try simp only [lv1, lv2, lv3, lv4, lv5, lv6, Bool.not_true, Bool.not_false] at h
      refine tlm ?_; refine tv (o_len Tryz.underlying22 rfl) ?_; refine tlm ?_; refine tv (by first | exact o_subI rfl rfl oqz | exact o_sub rfl rfl) ?_; refine tlm ?_; refine tv (o_lss rfl rfl) ?_; refine tv (o_pick_f rfl (by conv => lhs; whnf)) ?_; refine nq ?_; refine tc_cond rfl (fun h => ?_) (fun h => ?_)
      · exfalso; simp at h
      · try simp only [lv1, lv2, lv3, lv4, lv5, lv6, Bool.not_true, Bool.not_false] at h
        refine tc_skip ?_; refine q_then_n ?_; refine sr ?_; refine tla ?_; refine nq ?_; refine tc_seq ?_; refine sr ?_; refine tlm ?_; refine tv (by first | exact o_subI rfl rfl oqz | exact o_sub rfl rfl) ?_; refine tla ?_; refine nq ?_; refine tc_block ?_; refine tc_loop (fun kk ρ BB => ∃ (i : Nat), (i ≤ 8) ∧ kk = i ∧ ρ 8 = .int .u64 ((nm (xs.drop i) : Nat) : Int) ∧ ρ 9 = .int .i64 ((i : Int) - 1) ∧ ρ 0 = .slice a 8 c ∧ ρ 1 = .int .i64 0 ∧ BB = A) (m := (8)) ?_ ?_
        · exact ⟨8, by omega, rfl, by rw [List.drop_of_length_le oqz]; rfl, rfl, rfl, rfl, rfl⟩
        · intro k ρ B hI
          obtain ⟨i, hp0, hkk1, hE8, hE9, hE0, hE1, hBA⟩ := hI
          obtain rfl := hBA.symm
          refine tc_env (d := 8) hE8 ?_; refine tc_env (d := 9) hE9 ?_; refine tc_env (d := 0) hE0 ?_; refine tc_env (d := 1) hE1 ?_
          clear hE8 hE9 hE0 hE1
          refine tc_seq ?_; refine sr ?_; refine tlm ?_; refine tv (o_geq rfl rfl) ?_; refine nq ?_; refine tc_cond rfl (fun h => ?_) (fun h => ?_)
          · have hi : 1 ≤ i := by simp at h; omega
            have hi2 : i - 1 < xs.length := by omega
            have e1 : xs.drop (i - 1) = xs[i - 1] :: xs.drop i := by rw [List.drop_eq_getElem_cons hi2, show i - 1 + 1 = i by omega]
            have hbb := nm_bound (fun x hx => hb x (List.mem_of_mem_drop hx)) (show (xs.drop (i - 1)).length ≤ 8 by rw [List.length_drop]; omega)
            rw [e1, nm_snocr] at hbb
            have hx := hb _ (List.getElem_mem hi2)
            refine tc_skip ?_; refine q_then_n ?_; refine tc_seq ?_; refine tc_block ?_; refine tc_reg ?_; refine tlm ?_; refine tv (o_mulN (b := 256) rfl rfl rfl rfl (by show _ < 18446744073709551616; omega)) ?_; refine tlm ?_; refine tlm ?_; refine tlm ?_; refine tv adqz ?_; refine tl_env (d := 37) (v := .int .i64 ((i - 1 : Nat) : Int)) (by show Value.int .i64 _ = Value.int .i64 _; congr 1; omega) ?_; refine tv (o_ixP1 Tryz.underlying22 sz5 rfl rfl sq1z sq0z) ?_; refine tv (o_ldP p5 rfl sq2z (by first | assumption | exact bys_at oqz | exact ints_at oqz | exact wds_at oqz | exact bos_at oqz | rfl)) ?_; refine tv (by first | exact o_conv64 Tryz.underlying5 Tryz.underlying66 rfl | exact o_conv Tryz.underlying5 Tryz.underlying66 rfl) ?_
            refine tl_env (d := 40) (v := .int .u64 ((xs[i - 1] : Nat) : Int)) (congrArg (fun z : Nat => Value.int .u64 (z : Int)) (Nat.mod_eq_of_lt oqz)) ?_; refine tv (o_addN rfl rfl rfl (by show _ < 18446744073709551616; omega)) ?_; refine tla ?_; refine tl_nil ?_; refine q_block_n (q_then_n ?_); refine tc_reg ?_; refine tlm ?_; refine tv (by first | exact o_subI rfl rfl oqz | exact o_sub rfl rfl) ?_; refine tla ?_; refine nq ?_; exact ⟨_, by omega, i - 1, by omega, rfl, by show Value.int .u64 _ = Value.int .u64 _; rw [e1, nm_snocr]; congr 1; omega, by show Value.int .i64 _ = _; congr 1; omega, rfl, rfl, rfl⟩
          · try simp only [lv1, lv2, lv3, lv4, lv5, lv6, Bool.not_true, Bool.not_false] at h
            refine tc_exit ?_; refine q_then_e (q_then_e (q_block_x (q_then_n ?_))); refine sr ?_; refine tlm ?_; refine tla ?_; refine tla ?_; refine nq ?_; refine tc_ret ?_
            obtain rfl : i = 0 := by simp at h; omega
            exact ⟨.tuple #[.int .u64 ((nm (xs.drop 0) : Nat) : Int), .int .i64 0], A, res2 rfl rfl rfl, Dr.sat drqz, by rw [List.drop_zero], rfl⟩
theorem rnum_c {A R : SP} {C : SP → SP} {r : Nat} {s : DevS} (hc : Ct A (RDev r s) R C := by repeat (first | with_reducible exact ct_here | apply ct_left)) {bk at_ sz : Nat} (hl : Has R bk (cl (lcs11 r at_ sz) 96) := by (repeat (first | assumption | with_reducible exact has_here | with_reducible exact has_pt | apply has_left))) {q : Nat} (ho : s.off = false := by assumption) (hq : q + 8 ≤ s.ls.length * 64 := by omega) :
    Fn Tryz.prog 70 #[.pointer (some ⟨bk, 0, none⟩), .int .i64 (q : Nat)] (A) (fun v B => v = .int .u64 ((nm (((imgS s).drop q).take 8) : Nat) : Int) ∧ A = B) := by
  refine fn_enterW (args := [.pointer (some ⟨bk, 0, none⟩), .int .i64 (q : Nat)]) Tryz.func70 rfl Tryz.ntmps70 (by simp) ?_; refine tc_have (fun _ _ h => wfR_ct hc h) fun hw => ?_
  have htop := hw.top
  have hpos := hw.pos
  obtain ⟨rfl, hC⟩ := hc
  have hAC : ∀ g w, sat g w (R * RDev r s) → sat g w (C (RDev r s)) := fun g w h => by rw [hC]; exact h
  have hil := imgS_len hw
  have hol : (((imgS s).drop q).take 8).length = 8 := by rw [List.length_take, List.length_drop, hil]; omega
  have hob : ∀ x ∈ ((imgS s).drop q).take 8, x < 256 := img_sub
  refine sr ?_; refine tla ?_; refine nq ?_; refine sr ?_; refine tlm ?_; refine tv (o_nilCheck rfl) ?_; refine tv (o_fieldAddr (o := 0) Tryz.underlying96 rfl rfl sz33 rfl) ?_; refine tv (o_load p33 rfl haqz rfl) ?_; refine tlm ?_; refine tl_c rfl (o_call bd73 rfl (rLoad_c (s := s) (p := q) (m := 8))) ?_; rintro _ _ ⟨a15, c15, rfl, hc15, rfl⟩; refine tlm ?_; refine tv (o_extract rfl rfl) ?_; refine tv (o_extract rfl rfl) ?_; refine tla ?_; refine tla ?_; refine nq ?_; refine sr ?_; refine tlm ?_; refine tl_c rfl (o_call bd100 rfl (Take8R_c (xs := ((imgS s).drop q).take 8))) ?_; rintro _ _ ⟨rfl, rfl⟩; refine tlm ?_; refine tv (o_extract rfl rfl) ?_; refine tv (o_extract rfl rfl) ?_; refine tla ?_; refine tla ?_; refine nq ?_; refine sr ?_; refine tlm ?_; refine tla ?_; refine nq ?_; refine tc_ret ?_; exact ⟨_, _, res1 rfl rfl, Dr.sat drqz, rfl, rfl⟩
theorem rMay11_c {A R : SP} {C : SP → SP} {r : Nat} {s : DevS} (hc : Ct A (RDev r s) R C := by repeat (first | with_reducible exact ct_here | apply ct_left)) {bk at_ sz : Nat} (hl : Has A bk (cl (lcs11 r at_ sz) 96) := by (repeat (first | assumption | with_reducible exact has_here | with_reducible exact has_pt | apply has_left))) {x : Int × Int} (hx : XW x := by assumption) (hlw : LogW (s.ls.length * 64) at_ sz := by assumption) :
    Fn Tryz.prog 71 #[.pointer (some ⟨bk, 0, none⟩), .agg (xcs x).toArray] (A) (fun r_ B => r_ = .bool (mayX (s.ls.length * 64) at_ sz x) ∧ A = B) := by
  refine fn_enterW (args := [.pointer (some ⟨bk, 0, none⟩), .agg (xcs x).toArray]) Tryz.func71 rfl Tryz.ntmps71 (by simp) ?_; refine tc_have (fun _ _ h => wfR_ct hc h) fun hw => ?_
  have htop := hw.top
  have hpos := hw.pos
  obtain ⟨rfl, hC⟩ := hc
  obtain ⟨⟨hx1, hx2⟩, ⟨hx3, hx4⟩⟩ := hx
  obtain ⟨w1, w2, w3, w4, w5⟩ := hlw
  refine sr ?_; refine tl_x rfl (o_box rfl rfl) ?_; rintro _ _ ⟨b3, rfl, rfl⟩; refine tla ?_; refine nq ?_; refine tc_seq ?_; refine tc_seq ?_; refine tc_cut (fun ρ BB => ∃ (bb : Bool), (bb = decide (¬ (1 ≤ x.2 ∧ 64 ≤ x.1 ∧ x.1 ≤ (s.ls.length : Int) * 64 ∧ x.2 ≤ (s.ls.length : Int) * 64 - x.1))) ∧ ρ 39 = .bool bb ∧ ρ 0 = .pointer (some ⟨bk, 0, none⟩) ∧ ρ 3 = .pointer (some ⟨b3, 0, none⟩) ∧ BB = R * RDev r s * pt b3 (cl (xcs x) 82)) ?_ ?_
  · skip
    refine tc_regq mo kqz ?_; refine ql_v rfl (o_fieldAddr (o := 1) Tryz.underlying82 rfl rfl sz3 rfl) ?_; refine ql_v rfl (by first | exact o_load p3 rfl hsqz rfl | exact o_loadC p3 rfl (by assumption)) ?_; refine ql_v rfl (o_lss rfl rfl) ?_; refine ql_v rfl (o_move (by conv => lhs; whnf)) ?_; refine ql_bool (d := 8) rfl (fun h => ?_) (fun h => ?_)
    · have g8 : (x.2 < 1) := by first | exact of_decide_eq_true h | (have h2 := h; simp at h2; omega) | simpa using h
      refine ql_skip rfl ?_; refine ql_skip rfl ?_; refine ql_skip rfl ?_; refine ql_v rfl (o_pick_t rfl (by conv => lhs; whnf)) ?_; refine ql_v rfl (o_move (by conv => lhs; whnf)) ?_; refine ql_skip rfl ?_; refine ql_skip rfl ?_; refine ql_skip rfl ?_; refine ql_skip rfl ?_; refine ql_skip rfl ?_; refine ql_skip rfl ?_; refine ql_skip rfl ?_; refine ql_skip rfl ?_; refine ql_skip rfl ?_; refine ql_skip rfl ?_; refine ql_v rfl (o_pick_t rfl (by conv => lhs; whnf)) ?_; refine ql_v rfl (o_move (by conv => lhs; whnf)) ?_; refine ql_skip rfl ?_; refine ql_skip rfl ?_; refine ql_skip rfl ?_; refine ql_skip rfl ?_; refine ql_skip rfl ?_; refine ql_skip rfl ?_; refine ql_skip rfl ?_; refine ql_skip rfl ?_; refine ql_skip rfl ?_; refine ql_skip rfl ?_; refine ql_skip rfl ?_; refine ql_skip rfl ?_; refine ql_skip rfl ?_; refine ql_v rfl (o_pick_t rfl (by conv => lhs; whnf)) ?_; refine ql_nil ?_; exact ⟨_, by first | exact (decide_eq_true oqz).symm | exact (decide_eq_false oqz).symm | (rw [decide_eq_decide]; omega), rfl, rfl, rfl, rfl⟩
    · have g8 : ¬ (x.2 < 1) := by first | exact of_decide_eq_false h | (have h2 := h; simp at h2; omega) | simpa using h
      refine ql_v rfl (o_fieldAddr (o := 0) Tryz.underlying82 rfl rfl sz3 rfl) ?_; refine ql_v rfl (by first | exact o_load p3 rfl hsqz rfl | exact o_loadC p3 rfl (by assumption)) ?_; refine ql_v rfl (o_lss rfl rfl) ?_; refine ql_v rfl (o_pick_f rfl (by conv => lhs; whnf)) ?_; refine ql_v rfl (o_move (by conv => lhs; whnf)) ?_; refine ql_bool (d := 13) rfl (fun h => ?_) (fun h => ?_)
      · have g13 : (x.2 < 1 ∨ x.1 < 64) := by first | exact of_decide_eq_true h | (have h2 := h; simp at h2; omega) | simpa using h
        refine ql_skip rfl ?_; refine ql_skip rfl ?_; refine ql_skip rfl ?_; refine ql_skip rfl ?_; refine ql_skip rfl ?_; refine ql_skip rfl ?_; refine ql_skip rfl ?_; refine ql_skip rfl ?_; refine ql_skip rfl ?_; refine ql_skip rfl ?_; refine ql_v rfl (o_pick_t rfl (by conv => lhs; whnf)) ?_; refine ql_v rfl (o_move (by conv => lhs; whnf)) ?_; refine ql_skip rfl ?_; refine ql_skip rfl ?_; refine ql_skip rfl ?_; refine ql_skip rfl ?_; refine ql_skip rfl ?_; refine ql_skip rfl ?_; refine ql_skip rfl ?_; refine ql_skip rfl ?_; refine ql_skip rfl ?_; refine ql_skip rfl ?_; refine ql_skip rfl ?_; refine ql_skip rfl ?_; refine ql_skip rfl ?_; refine ql_v rfl (o_pick_t rfl (by conv => lhs; whnf)) ?_; refine ql_nil ?_; exact ⟨_, by first | exact (decide_eq_true oqz).symm | exact (decide_eq_false oqz).symm | (rw [decide_eq_decide]; omega), rfl, rfl, rfl, rfl⟩
      · have g13 : ¬ (x.2 < 1 ∨ x.1 < 64) := by first | exact of_decide_eq_false h | (have h2 := h; simp at h2; omega) | simpa using h
        refine ql_v rfl (o_fieldAddr (o := 0) Tryz.underlying82 rfl rfl sz3 rfl) ?_; refine ql_v rfl (by first | exact o_load p3 rfl hsqz rfl | exact o_loadC p3 rfl (by assumption)) ?_; refine ql_v rfl (o_move (by conv => lhs; whnf)) ?_; refine ql_v rfl (o_nilCheck rfl) ?_; refine ql_v rfl (o_fieldAddr (o := 0) Tryz.underlying96 rfl rfl sz33 rfl) ?_; refine ql_v rfl (o_load p33 rfl haqz rfl) ?_; refine ql_v rfl (o_nilCheck rfl) ?_; refine ql_v rfl (o_fieldAddr (o := 0) Tryz.underlying55 rfl rfl sz3 rfl) ?_; refine ql_v rfl (o_loadC (b := r) p3 rfl (by repeat (first | exact cellR0 | apply Cell.left))) ?_; refine ql_v rfl (o_gtr rfl rfl) ?_; refine ql_v rfl (o_pick_f rfl (by conv => lhs; whnf)) ?_; refine ql_v rfl (o_move (by conv => lhs; whnf)) ?_; refine ql_bool (d := 25) rfl (fun h => ?_) (fun h => ?_)
        · have g25 : (x.2 < 1 ∨ x.1 < 64 ∨ (s.ls.length : Int) * 64 < x.1) := by first | exact of_decide_eq_true h | (have h2 := h; simp at h2; omega) | simpa using h
          refine ql_skip rfl ?_; refine ql_skip rfl ?_; refine ql_skip rfl ?_; refine ql_skip rfl ?_; refine ql_skip rfl ?_; refine ql_skip rfl ?_; refine ql_skip rfl ?_; refine ql_skip rfl ?_; refine ql_skip rfl ?_; refine ql_skip rfl ?_; refine ql_skip rfl ?_; refine ql_skip rfl ?_; refine ql_skip rfl ?_; refine ql_v rfl (o_pick_t rfl (by conv => lhs; whnf)) ?_; refine ql_nil ?_; exact ⟨_, by first | exact (decide_eq_true oqz).symm | exact (decide_eq_false oqz).symm | (rw [decide_eq_decide]; omega), rfl, rfl, rfl, rfl⟩
        · have g25 : ¬ (x.2 < 1 ∨ x.1 < 64 ∨ (s.ls.length : Int) * 64 < x.1) := by first | exact of_decide_eq_false h | (have h2 := h; simp at h2; omega) | simpa using h
          refine ql_v rfl (o_fieldAddr (o := 1) Tryz.underlying82 rfl rfl sz3 rfl) ?_; refine ql_v rfl (by first | exact o_load p3 rfl hsqz rfl | exact o_loadC p3 rfl (by assumption)) ?_; refine ql_v rfl (o_move (by conv => lhs; whnf)) ?_; refine ql_v rfl (o_nilCheck rfl) ?_; refine ql_v rfl (o_fieldAddr (o := 0) Tryz.underlying96 rfl rfl sz33 rfl) ?_; refine ql_v rfl (o_load p33 rfl haqz rfl) ?_; refine ql_v rfl (o_nilCheck rfl) ?_; refine ql_v rfl (o_fieldAddr (o := 0) Tryz.underlying55 rfl rfl sz3 rfl) ?_; refine ql_v rfl (o_loadC (b := r) p3 rfl (by repeat (first | exact cellR0 | apply Cell.left))) ?_; refine ql_v rfl (o_fieldAddr (o := 0) Tryz.underlying82 rfl rfl sz3 rfl) ?_; refine ql_v rfl (by first | exact o_load p3 rfl hsqz rfl | exact o_loadC p3 rfl (by assumption)) ?_; refine ql_v rfl (o_subI rfl rfl oqz) ?_; refine ql_v rfl (o_gtr rfl rfl) ?_; refine ql_v rfl (o_pick_f rfl (by conv => lhs; whnf)) ?_; refine ql_nil ?_; exact ⟨_, by first | exact (decide_eq_true oqz).symm | exact (decide_eq_false oqz).symm | (rw [decide_eq_decide]; omega), rfl, rfl, rfl, rfl⟩
  · intro ρ B hI
    obtain ⟨bb, hbb0, hE39, hE0, hE3, rfl⟩ := hI
    refine q_then_n ?_; refine tc_env (d := 39) hE39 ?_; refine tc_env (d := 0) hE0 ?_; refine tc_env (d := 3) hE3 ?_
    clear hE39 hE0 hE3
    refine tc_cond rfl (fun h => ?_) (fun h => ?_)
    · have hf := of_decide_eq_true (show decide (¬ (1 ≤ x.2 ∧ 64 ≤ x.1 ∧ x.1 ≤ (s.ls.length : Int) * 64 ∧ x.2 ≤ (s.ls.length : Int) * 64 - x.1)) = true by rw [← hbb0]; exact h)
      refine sr ?_; refine tla ?_; refine nq ?_; refine tc_ret ?_; refine q_then_r ?_
      have e : mayX (s.ls.length * 64) at_ sz x = false := decide_eq_false oqz
      rw [e]
      exact ⟨.bool false, _, res1 rfl rfl, Dr.sat drqz, rfl, rfl⟩
    · have hf : (1 ≤ x.2 ∧ 64 ≤ x.1 ∧ x.1 ≤ (s.ls.length : Int) * 64 ∧ x.2 ≤ (s.ls.length : Int) * 64 - x.1) := by have h9 := of_decide_eq_false (show decide (¬ (1 ≤ x.2 ∧ 64 ≤ x.1 ∧ x.1 ≤ (s.ls.length : Int) * 64 ∧ x.2 ≤ (s.ls.length : Int) * 64 - x.1)) = false by rw [← hbb0]; exact h); omega
      refine tc_skip ?_; refine q_then_n ?_; refine tc_seq ?_; refine tc_regq mo kqz ?_; refine ql_v rfl (o_fieldAddr (o := 0) Tryz.underlying82 rfl rfl sz3 rfl) ?_; refine ql_v rfl (by first | exact o_load p3 rfl hsqz rfl | exact o_loadC p3 rfl (by assumption)) ?_; refine ql_v rfl (o_fieldAddr (o := 1) Tryz.underlying82 rfl rfl sz3 rfl) ?_; refine ql_v rfl (by first | exact o_load p3 rfl hsqz rfl | exact o_loadC p3 rfl (by assumption)) ?_; refine ql_v rfl (o_addI rfl rfl oqz) ?_; refine ql_v rfl (o_move (by conv => lhs; whnf)) ?_; refine ql_v rfl (o_nilCheck rfl) ?_; refine ql_v rfl (o_fieldAddr (o := 1) Tryz.underlying96 rfl rfl sz3 rfl) ?_; refine ql_v rfl (o_load p3 rfl haqz rfl) ?_; refine ql_v rfl (o_leq rfl rfl) ?_; refine ql_v rfl (o_move (by conv => lhs; whnf)) ?_; refine ql_bool (d := 50) rfl (fun h => ?_) (fun h => ?_)
      · have g50 : (x.1 + x.2 ≤ at_) := by first | exact of_decide_eq_true h | (have h2 := h; simp at h2; omega) | simpa using h
        refine ql_skip rfl ?_; refine ql_skip rfl ?_; refine ql_skip rfl ?_; refine ql_skip rfl ?_; refine ql_skip rfl ?_; refine ql_skip rfl ?_; refine ql_skip rfl ?_; refine ql_skip rfl ?_; refine ql_skip rfl ?_; refine ql_skip rfl ?_; refine ql_skip rfl ?_; refine ql_skip rfl ?_; refine ql_v rfl (o_pick_t rfl (by conv => lhs; whnf)) ?_; refine ql_v rfl (o_assign (by conv => lhs; whnf)) ?_; refine ql_nil ?_; refine q_then_n ?_; refine tc_ret ?_
        have e : ∀ b, b = decide (x.1 + x.2 ≤ at_ ∨ ((at_ + sz : Nat) : Int) ≤ x.1) → mayX (s.ls.length * 64) at_ sz x = b := fun b hb => by rw [hb]; unfold mayX; rw [decide_eq_decide]; omega
        exact ⟨.bool (mayX (s.ls.length * 64) at_ sz x), _, res1 rfl (congrArg Value.bool (e _ (by first | exact (decide_eq_true oqz).symm | exact (decide_eq_false oqz).symm | (rw [decide_eq_decide]; omega)))).symm, Dr.sat drqz, rfl, rfl⟩
      · have g50 : ¬ (x.1 + x.2 ≤ at_) := by first | exact of_decide_eq_false h | (have h2 := h; simp at h2; omega) | simpa using h
        refine ql_v rfl (o_fieldAddr (o := 0) Tryz.underlying82 rfl rfl sz3 rfl) ?_; refine ql_v rfl (by first | exact o_load p3 rfl hsqz rfl | exact o_loadC p3 rfl (by assumption)) ?_; refine ql_v rfl (o_move (by conv => lhs; whnf)) ?_; refine ql_v rfl (o_nilCheck rfl) ?_; refine ql_v rfl (o_fieldAddr (o := 1) Tryz.underlying96 rfl rfl sz3 rfl) ?_; refine ql_v rfl (o_load p3 rfl haqz rfl) ?_; refine ql_v rfl (o_move (by conv => lhs; whnf)) ?_; refine ql_v rfl (o_nilCheck rfl) ?_; refine ql_v rfl (o_fieldAddr (o := 2) Tryz.underlying96 rfl rfl sz3 rfl) ?_; refine ql_v rfl (o_load p3 rfl haqz rfl) ?_; refine ql_v rfl (o_addI rfl rfl oqz) ?_; refine ql_v rfl (o_geq rfl rfl) ?_; refine ql_v rfl (o_pick_f rfl (by conv => lhs; whnf)) ?_; refine ql_v rfl (o_assign (by conv => lhs; whnf)) ?_; refine ql_nil ?_; refine q_then_n ?_; refine tc_ret ?_
        have e : ∀ b, b = decide (x.1 + x.2 ≤ at_ ∨ ((at_ + sz : Nat) : Int) ≤ x.1) → mayX (s.ls.length * 64) at_ sz x = b := fun b hb => by rw [hb]; unfold mayX; rw [decide_eq_decide]; omega
        exact ⟨.bool (mayX (s.ls.length * 64) at_ sz x), _, res1 rfl (congrArg Value.bool (e _ (by first | exact (decide_eq_true oqz).symm | exact (decide_eq_false oqz).symm | (rw [decide_eq_decide]; omega)))).symm, Dr.sat drqz, rfl, rfl⟩
theorem rLines_c {A : SP} {p m : Nat} (h1 : 1 ≤ m := by omega) (hpm : p + m ≤ 1099511627776 := by omega) :
    Fn Tryz.prog 105 #[.agg (xcs ((p : Int), (m : Int))).toArray] (A) (fun v B => ∃ a c, v = .slice a ((p + m - 1) / 64 - p / 64 + 1) c ∧ ((p + m - 1) / 64 - p / 64 + 1) ≤ c ∧ B = A * Sl 1 (.slice a ((p + m - 1) / 64 - p / 64 + 1) c) ((p + m - 1) / 64 - p / 64 + 1) (ints (lnK (p / 64) ((p + m - 1) / 64 - p / 64 + 1)))) := by
  refine fn_enterW (args := [.agg (xcs ((p : Int), (m : Int))).toArray]) Tryz.func105 rfl Tryz.ntmps105 (by simp) ?_; refine sr ?_; refine tl_x rfl (o_box rfl rfl) ?_; rintro _ _ ⟨b1, rfl, rfl⟩; refine tla ?_; refine nq ?_; refine sr ?_; refine tla ?_; refine nq ?_; refine tc_seq ?_; refine sr ?_; refine tv (o_fieldAddr (o := 0) Tryz.underlying82 rfl rfl sz3 rfl) ?_; refine tv (by first | exact o_load p3 rfl hsqz rfl | exact o_loadC p3 rfl (by assumption)) ?_; refine tv (o_quoN (b := 64) rfl rfl oqz) ?_; refine tla ?_; refine nq ?_; refine tc_block ?_; refine tc_pre (A' := A * pt b1 (cl (xcs ((p : Int), (m : Int))) 82) * Sl 1 (.slice none 0 0) 0 (ints (lnK (p / 64) 0))) (fun _ _ h => sl_nil h) ?_; refine tc_loop (fun kk ρ BB => ∃ (i : Nat) (a3 : Option Addr) (c3 : Nat), (i ≤ ((p + m - 1) / 64 - p / 64 + 1)) ∧ (i ≤ c3) ∧ kk = ((p + m - 1) / 64 - p / 64 + 1) - i ∧ ρ 3 = .slice a3 i c3 ∧ ρ 4 = .int .i64 ((p / 64 + i : Nat) : Int) ∧ ρ 1 = .pointer (some ⟨b1, 0, none⟩) ∧ Dr BB (A * pt b1 (cl (xcs ((p : Int), (m : Int))) 82) * Sl 1 (.slice a3 i c3) i (ints (lnK (p / 64) i)))) (m := ((p + m - 1) / 64 - p / 64 + 1) - (0)) ?_ ?_
  · exact ⟨0, none, 0, by omega, by omega, rfl, rfl, rfl, rfl, drqz⟩
  · intro k ρ B hI
    obtain ⟨i, a3, c3, hp0, hp1, hkk1, hE3, hE4, hE1, hBA⟩ := hI
    refine tc_pre hBA.sat ?_
    clear hBA
    refine tc_env (d := 3) hE3 ?_; refine tc_env (d := 4) hE4 ?_; refine tc_env (d := 1) hE1 ?_
    clear hE3 hE4 hE1
    refine tc_seq ?_; refine sr ?_; refine tlm ?_; refine tv (o_fieldAddr (o := 0) Tryz.underlying82 rfl rfl sz3 rfl) ?_; refine tv (by first | exact o_load p3 rfl hsqz rfl | exact o_loadC p3 rfl (by assumption)) ?_; refine tv (o_fieldAddr (o := 1) Tryz.underlying82 rfl rfl sz3 rfl) ?_; refine tv (by first | exact o_load p3 rfl hsqz rfl | exact o_loadC p3 rfl (by assumption)) ?_; refine tv adqz ?_; refine tv (by first | exact o_subI rfl rfl oqz | exact o_sub rfl rfl) ?_; refine tl_env (d := 14) (v := .int .i64 ((p + m - 1 : Nat) : Int)) (by show Value.int .i64 _ = _; congr 1; omega) ?_; refine tv (o_quoN (b := 64) rfl rfl oqz) ?_; refine tv (o_leq rfl rfl) ?_; refine nq ?_; refine tc_cond rfl (fun h => ?_) (fun h => ?_)
    · have hi : i < ((p + m - 1) / 64 - p / 64 + 1) := by simp at h; omega
      refine tc_skip ?_; refine q_then_n ?_; refine tc_seq ?_; refine tc_block ?_; refine tc_reg ?_; refine tlm ?_; refine tlm ?_; refine tl_x rfl (o_buildSlice1 Tryz.underlying48 sz3 z3 (by conv => lhs; whnf) rfl) ?_; rintro _ _ ⟨b21, rfl, rfl⟩; refine tl_x rfl (o_apB Tryz.underlying48 Tryz.underlying48 sz3 by3 z3 rfl (by decide) (by decide) rfl rfl rfl ctqz rfl (by first | exact bys_all _ | exact ints_all _ | exact wds_all _ | exact bos_all _ | rfl) sq1z (by first | exact bys_sn _ _ | exact ints_sn _ _ | exact wds_sn _ _ | exact bos_sn _ _ | exact (bys_append _ _).symm | rfl)) ?_; rintro _ _ ⟨a22, c22, rfl, hc22, rfl⟩; refine tla ?_; refine tl_nil ?_; refine q_block_n (q_then_n ?_); refine tc_reg ?_; refine tlm ?_; refine tv adqz ?_; refine tla ?_; refine nq ?_; exact ⟨_, by omega, i + 1, _, _, by omega, hc22, rfl, rfl, rfl, rfl, by rw [lnK_succ]; repeat (first | with_reducible exact dr_refl | apply dr_keep | apply dr_drop)⟩
    · obtain rfl : i = ((p + m - 1) / 64 - p / 64 + 1) := by simp at h; omega
      refine tc_exit ?_; refine q_then_e (q_then_e (q_block_x (q_then_n ?_))); refine sr ?_; refine tlm ?_; refine tla ?_; refine nq ?_; refine tc_ret ?_; exact ⟨.slice a3 ((p + m - 1) / 64 - p / 64 + 1) c3, _, res1 rfl rfl, Dr.sat drqz, a3, c3, rfl, hp1, rfl⟩
theorem rflush_c {A R : SP} {C : SP → SP} {r : Nat} {s : DevS} (hc : Ct A (RDev r s) R C := by repeat (first | with_reducible exact ct_here | apply ct_left)) {bk at_ sz : Nat} (hl : Has R bk (cl (lcs11 r at_ sz) 96) := by (repeat (first | assumption | with_reducible exact has_here | with_reducible exact has_pt | apply has_left))) {p m : Nat} (h1 : 1 ≤ m := by omega) (hpm : p + m ≤ s.ls.length * 64 := by omega) :
    Fn Tryz.prog 75 #[.pointer (some ⟨bk, 0, none⟩), .agg (xcs ((p : Int), (m : Int))).toArray] (A) (fun r_ B => ∃ e s2, flushX p m s = (e, s2) ∧ r_ = .int .i64 e ∧ B = C (RDev r s2)) := by
  refine fn_enterW (args := [.pointer (some ⟨bk, 0, none⟩), .agg (xcs ((p : Int), (m : Int))).toArray]) Tryz.func75 rfl Tryz.ntmps75 (by simp) ?_; refine tc_have (fun _ _ h => wfR_ct hc h) fun hw => ?_
  have htop := hw.top
  have hpos := hw.pos
  obtain ⟨rfl, hC⟩ := hc
  have hAC : ∀ g w, sat g w (R * RDev r s) → sat g w (C (RDev r s)) := fun g w h => by rw [hC]; exact h
  refine sr ?_; refine tl_x rfl (o_box rfl rfl) ?_; rintro _ _ ⟨b3, rfl, rfl⟩; refine tla ?_; refine nq ?_; refine sr ?_; refine tv (o_loadN (vs := xcs ((p : Int), (m : Int))) a82 sz82 rfl hsqz (by show 2 ≤ 2; decide) rfl) ?_; refine tl_c rfl (o_call bd105 rfl (rLines_c (p := p) (m := m))) ?_; rintro _ _ ⟨a9, c9, rfl, hc9, rfl⟩; refine tla ?_; refine nq ?_; refine tc_seq ?_; refine sr ?_; refine tla ?_; refine nq ?_; refine tc_block ?_; refine tc_loop (fun kk ρ BB => ∃ (i : Nat) (s1 : DevS), (i ≤ ((p + m - 1) / 64 - p / 64 + 1)) ∧ (flL (((p + m - 1) / 64 - p / 64 + 1) - i) (p / 64 + i) s1 = flushX p m s) ∧ (s1.ls.length = s.ls.length) ∧ kk = ((p + m - 1) / 64 - p / 64 + 1) - i ∧ ρ 6 = .int .i64 (i : Nat) ∧ ρ 0 = .pointer (some ⟨bk, 0, none⟩) ∧ ρ 5 = .slice a9 ((p + m - 1) / 64 - p / 64 + 1) c9 ∧ Dr BB (R * RDev r s1 * pt b3 (cl (xcs ((p : Int), (m : Int))) 82) * Sl 1 (.slice a9 ((p + m - 1) / 64 - p / 64 + 1) c9) ((p + m - 1) / 64 - p / 64 + 1) (ints (lnK (p / 64) ((p + m - 1) / 64 - p / 64 + 1))))) (m := ((p + m - 1) / 64 - p / 64 + 1) - (0)) ?_ ?_
  · exact ⟨0, s, by omega, rfl, rfl, rfl, rfl, rfl, rfl, drqz⟩
  · intro k ρ B hI
    obtain ⟨i, s1, hp0, hp1, hp2, hkk1, hE6, hE0, hE5, hBA⟩ := hI
    refine tc_pre hBA.sat ?_
    clear hBA
    refine tc_env (d := 6) hE6 ?_; refine tc_env (d := 0) hE0 ?_; refine tc_env (d := 5) hE5 ?_
    clear hE6 hE0 hE5
    refine tc_seq ?_; refine sr ?_; refine tlm ?_; refine tlm ?_; refine tv (o_len Tryz.underlying48 rfl) ?_; refine tv (o_lss rfl rfl) ?_; refine nq ?_; refine tc_cond rfl (fun h => ?_) (fun h => ?_)
    · have hi : i < ((p + m - 1) / 64 - p / 64 + 1) := by simp at h; omega
      refine tc_skip ?_; refine q_then_n ?_; refine tc_seq ?_; refine tc_block ?_; refine tc_seq ?_; refine tc_regh (S := R * pt b3 (cl (xcs ((p : Int), (m : Int))) 82) * Sl 1 (.slice a9 ((p + m - 1) / 64 - p / 64 + 1) c9) ((p + m - 1) / 64 - p / 64 + 1) (ints (lnK (p / 64) ((p + m - 1) / 64 - p / 64 + 1)))) mo drqz ?_
      show TH _ _ _ _ _ 11 #[ff,ff,ff,ff,ff,ff,ff,ff,ff,ff,ff] _ _
      refine th_take (i := 0) (listed' := #[tt,ff,ff,ff,ff,ff,ff,ff,ff,ff,ff]) rfl kqz kqz kqz rfl rfl (o_move (by conv => lhs; whnf)) ?_; refine th_take (i := 1) (listed' := #[tt,tt,ff,ff,ff,ff,ff,ff,ff,ff,ff]) rfl kqz kqz kqz rfl rfl (o_nilCheck rfl) ?_; refine th_take (i := 2) (listed' := #[tt,tt,tt,ff,ff,ff,ff,ff,ff,ff,ff]) rfl kqz kqz kqz rfl rfl (o_fieldAddr (o := 0) Tryz.underlying96 rfl rfl sz33 rfl) ?_; refine th_take (i := 3) (listed' := #[tt,tt,tt,tt,ff,ff,ff,ff,ff,ff,ff]) rfl kqz kqz kqz rfl rfl (o_load p33 rfl haqz rfl) ?_; refine th_take (i := 4) (listed' := #[tt,tt,tt,tt,tt,ff,ff,ff,ff,ff,ff]) rfl kqz kqz kqz rfl rfl (o_move (by conv => lhs; whnf)) ?_; refine th_take (i := 5) (listed' := #[tt,tt,tt,tt,tt,tt,ff,ff,ff,ff,ff]) rfl kqz kqz kqz rfl rfl (o_move (by conv => lhs; whnf)) ?_; refine th_take (i := 6) (listed' := #[tt,tt,tt,tt,tt,tt,tt,ff,ff,ff,ff]) rfl kqz kqz kqz rfl rfl (o_ixP1 Tryz.underlying48 sz3 rfl rfl oqz (nn_rs rs_sl (by rw [ints_length, lnK_len]; omega))) ?_; refine th_take (i := 7) (listed' := #[tt,tt,tt,tt,tt,tt,tt,tt,ff,ff,ff]) rfl kqz kqz kqz rfl rfl (o_ldP p3 rfl rs_sl (lnK_at hi)) ?_
      refine th_take (i := 8) (listed' := #[tt,tt,tt,tt,tt,tt,tt,tt,tt,ff,ff]) rfl kqz kqz kqz rfl rfl (by first | exact o_mulI rfl rfl oqz | exact o_mul rfl rfl) ?_; refine th_env (d := 24) (v := .int .i64 (((p / 64 + i) * 64 : Nat) : Int)) (by show Value.int .i64 _ = _; congr 1; omega) ?_; refine th_one (i := 9) kqz ?_; refine oh_c (i := 9) (listed' := #[tt,tt,tt,tt,tt,tt,tt,tt,tt,tt,ff]) rfl rfl rfl (o_call bd39 rfl (rFlush_c (s := s1) (p := (((p / 64 + i) * 64 : Nat) : Int)))) ?_; rintro _ _ ⟨e25, s25, hs25, rfl, rfl⟩; refine ⟨by repeat (first | with_reducible exact dr_refl | apply dr_keep | apply dr_drop), ?_⟩; refine th_take (i := 10) (listed' := #[tt,tt,tt,tt,tt,tt,tt,tt,tt,tt,tt]) rfl kqz kqz kqz rfl rfl (o_assign (by conv => lhs; whnf)) ?_; refine th_done kqz ?_; refine q_then_n ?_; refine sr ?_; refine tlm ?_; refine tv (o_nei rfl rfl) ?_; refine nq ?_; refine tc_cond rfl (fun h => ?_) (fun h => ?_)
      · have h : e25 ≠ 0 := by simpa using h
        refine sr ?_; refine tlm ?_; refine tla ?_; refine nq ?_; refine tc_ret ?_; refine q_block_r (q_then_r (q_then_r (q_block_r (q_then_r ?_)))); exact ⟨.int .i64 e25, C (RDev r s25), res1 rfl rfl, fun _ _ h => by rw [hC]; exact (Dr.sat (A' := R * RDev r s25) drqz) _ _ h, e25, s25, by rw [← hp1]; exact flX_e hi hs25 h, rfl, rfl⟩
      · obtain rfl : e25 = 0 := by simpa using h
        refine tc_skip ?_; refine q_block_n (q_then_n ?_); refine tc_reg ?_; refine tlm ?_; refine tv adqz ?_; refine tla ?_; refine nq ?_; exact ⟨_, by omega, i + 1, _, by omega, by rw [← hp1]; exact (flX_o hi hs25).symm, by have := fl1_len (((p / 64 + i) * 64 : Nat) : Int) s1; rw [hs25] at this; exact this.trans hp2, rfl, rfl, rfl, rfl, drqz⟩
    · obtain rfl : i = ((p + m - 1) / 64 - p / 64 + 1) := by simp at h; omega
      refine tc_exit ?_; refine q_then_e (q_then_e (q_block_x (q_then_n ?_))); refine sr ?_; refine tla ?_; refine nq ?_; refine tc_ret ?_; exact ⟨.int .i64 0, C (RDev r s1), res1 rfl rfl, fun _ _ h => by rw [hC]; exact (Dr.sat (A' := R * RDev r s1) drqz) _ _ h, 0, s1, by rw [← hp1, Nat.sub_self]; rfl, rfl, rfl⟩
theorem rpub_c {A R : SP} {C : SP → SP} {r : Nat} {s : DevS} (hc : Ct A (RDev r s) R C := by repeat (first | with_reducible exact ct_here | apply ct_left)) {bk at_ sz : Nat} (hl : Has R bk (cl (lcs11 r at_ sz) 96) := by (repeat (first | assumption | with_reducible exact has_here | with_reducible exact has_pt | apply has_left))) {n : Nat} (hn : n ≤ 9223372036854775807 := by omega) (ham : at_ % 64 = 0 := by omega) (hatt : at_ ≤ 9223372036854775807 := by omega) (hroom : Room 1 s := by assumption) :
    Fn Tryz.prog 76 #[.pointer (some ⟨bk, 0, none⟩), .int .i64 (n : Nat)] (A) (fun r_ B => ∃ e s2, pubP (at_ : Nat) n s = (e, s2) ∧ r_ = .int .i64 e ∧ B = C (RDev r s2)) := by
  refine fn_enterW (args := [.pointer (some ⟨bk, 0, none⟩), .int .i64 (n : Nat)]) Tryz.func76 rfl Tryz.ntmps76 (by simp) ?_; refine tc_have (fun _ _ h => wfR_ct hc h) fun hw => ?_
  have htop := hw.top
  have hpos := hw.pos
  obtain ⟨rfl, hC⟩ := hc
  have hAC : ∀ g w, sat g w (R * RDev r s) → sat g w (C (RDev r s)) := fun g w h => by rw [hC]; exact h
  refine sr ?_; refine tla ?_; refine nq ?_; refine tc_seq ?_; refine tc_regh (S := R) mo drqz ?_
  show TH _ _ _ _ _ 12 #[ff,ff,ff,ff,ff,ff,ff,ff,ff,ff,ff,ff] _ _
  refine th_take (i := 0) (listed' := #[tt,ff,ff,ff,ff,ff,ff,ff,ff,ff,ff,ff]) rfl kqz kqz kqz rfl rfl (o_move (by conv => lhs; whnf)) ?_; refine th_take (i := 1) (listed' := #[tt,tt,ff,ff,ff,ff,ff,ff,ff,ff,ff,ff]) rfl kqz kqz kqz rfl rfl (o_nilCheck rfl) ?_; refine th_take (i := 2) (listed' := #[tt,tt,tt,ff,ff,ff,ff,ff,ff,ff,ff,ff]) rfl kqz kqz kqz rfl rfl (o_fieldAddr (o := 0) Tryz.underlying96 rfl rfl sz33 rfl) ?_; refine th_take (i := 3) (listed' := #[tt,tt,tt,tt,ff,ff,ff,ff,ff,ff,ff,ff]) rfl kqz kqz kqz rfl rfl (o_load p33 rfl haqz rfl) ?_; refine th_take (i := 4) (listed' := #[tt,tt,tt,tt,tt,ff,ff,ff,ff,ff,ff,ff]) rfl kqz kqz kqz rfl rfl (o_move (by conv => lhs; whnf)) ?_; refine th_take (i := 5) (listed' := #[tt,tt,tt,tt,tt,tt,ff,ff,ff,ff,ff,ff]) rfl kqz kqz kqz rfl rfl (o_nilCheck rfl) ?_; refine th_take (i := 6) (listed' := #[tt,tt,tt,tt,tt,tt,tt,ff,ff,ff,ff,ff]) rfl kqz kqz kqz rfl rfl (o_fieldAddr (o := 1) Tryz.underlying96 rfl rfl sz3 rfl) ?_; refine th_take (i := 7) (listed' := #[tt,tt,tt,tt,tt,tt,tt,tt,ff,ff,ff,ff]) rfl kqz kqz kqz rfl rfl (o_load p3 rfl haqz rfl) ?_; refine th_take (i := 8) (listed' := #[tt,tt,tt,tt,tt,tt,tt,tt,tt,ff,ff,ff]) rfl kqz kqz kqz rfl rfl (o_move (by conv => lhs; whnf)) ?_
  refine th_take (i := 9) (listed' := #[tt,tt,tt,tt,tt,tt,tt,tt,tt,tt,ff,ff]) rfl kqz kqz kqz rfl rfl (by first | exact o_conv64 Tryz.underlying3 Tryz.underlying66 rfl | exact o_conv Tryz.underlying3 Tryz.underlying66 rfl) ?_; refine th_env (d := 15) (v := .int .u64 ((n : Nat) : Int)) (congrArg (fun z : Nat => Value.int .u64 (z : Int)) (Nat.mod_eq_of_lt oqz)) ?_; refine th_one (i := 10) kqz ?_; refine oh_c (i := 10) (listed' := #[tt,tt,tt,tt,tt,tt,tt,tt,tt,tt,tt,ff]) rfl rfl rfl (o_call bd50 rfl (rStore8_c (s := s) (p := (at_ : Nat)) (v := n))) ?_; rintro _ _ ⟨e16, s16, hs16, rfl, rfl⟩; refine ⟨by repeat (first | with_reducible exact dr_refl | apply dr_keep | apply dr_drop), ?_⟩; refine th_take (i := 11) (listed' := #[tt,tt,tt,tt,tt,tt,tt,tt,tt,tt,tt,tt]) rfl kqz kqz kqz rfl rfl (o_assign (by conv => lhs; whnf)) ?_; refine th_done kqz ?_; refine q_then_n ?_; refine tc_seq ?_; refine sr ?_; refine tlm ?_; refine tv (o_eqi rfl rfl) ?_; refine nq ?_; refine tc_cond rfl (fun h => ?_) (fun h => ?_)
  · obtain rfl : e16 = 0 := by simpa using h
    refine tc_regh (S := R) mo drqz ?_
    show TH _ _ _ _ _ 10 #[ff,ff,ff,ff,ff,ff,ff,ff,ff,ff] _ _
    refine th_take (i := 0) (listed' := #[tt,ff,ff,ff,ff,ff,ff,ff,ff,ff]) rfl kqz kqz kqz rfl rfl (o_move (by conv => lhs; whnf)) ?_; refine th_take (i := 1) (listed' := #[tt,tt,ff,ff,ff,ff,ff,ff,ff,ff]) rfl kqz kqz kqz rfl rfl (o_nilCheck rfl) ?_; refine th_take (i := 2) (listed' := #[tt,tt,tt,ff,ff,ff,ff,ff,ff,ff]) rfl kqz kqz kqz rfl rfl (o_fieldAddr (o := 0) Tryz.underlying96 rfl rfl sz33 rfl) ?_; refine th_take (i := 3) (listed' := #[tt,tt,tt,tt,ff,ff,ff,ff,ff,ff]) rfl kqz kqz kqz rfl rfl (o_load p33 rfl haqz rfl) ?_; refine th_take (i := 4) (listed' := #[tt,tt,tt,tt,tt,ff,ff,ff,ff,ff]) rfl kqz kqz kqz rfl rfl (o_move (by conv => lhs; whnf)) ?_; refine th_take (i := 5) (listed' := #[tt,tt,tt,tt,tt,tt,ff,ff,ff,ff]) rfl kqz kqz kqz rfl rfl (o_nilCheck rfl) ?_; refine th_take (i := 6) (listed' := #[tt,tt,tt,tt,tt,tt,tt,ff,ff,ff]) rfl kqz kqz kqz rfl rfl (o_fieldAddr (o := 1) Tryz.underlying96 rfl rfl sz3 rfl) ?_; refine th_take (i := 7) (listed' := #[tt,tt,tt,tt,tt,tt,tt,tt,ff,ff]) rfl kqz kqz kqz rfl rfl (o_load p3 rfl haqz rfl) ?_; refine th_one (i := 8) kqz ?_; refine oh_c (i := 8) (listed' := #[tt,tt,tt,tt,tt,tt,tt,tt,tt,ff]) rfl rfl rfl (o_call bd39 rfl (rFlush_c (s := s16) (p := (at_ : Nat)))) ?_
    rintro _ _ ⟨e27, s27, hs27, rfl, rfl⟩; refine ⟨by repeat (first | with_reducible exact dr_refl | apply dr_keep | apply dr_drop), ?_⟩; refine th_take (i := 9) (listed' := #[tt,tt,tt,tt,tt,tt,tt,tt,tt,tt]) rfl kqz kqz kqz rfl rfl (o_assign (by conv => lhs; whnf)) ?_; refine th_done kqz ?_; refine q_then_n ?_; refine tc_seq ?_; refine sr ?_; refine tlm ?_; refine tv (o_eqi rfl rfl) ?_; refine nq ?_; refine tc_cond rfl (fun h => ?_) (fun h => ?_)
    · obtain rfl : e27 = 0 := by simpa using h
      refine tc_reg ?_; refine tlm ?_; refine tv (o_nilCheck rfl) ?_; refine tv (o_fieldAddr (o := 0) Tryz.underlying96 rfl rfl sz33 rfl) ?_; refine tv (o_load p33 rfl haqz rfl) ?_; refine tl_c rfl (o_call bd41 rfl (rFence_c (s := s27))) ?_; rintro _ _ ⟨e34, s34, hs34, rfl, rfl⟩; refine tla ?_; refine nq ?_; refine sr ?_; refine tlm ?_; refine tla ?_; refine nq ?_; refine tc_ret ?_; exact ⟨.int .i64 e34, C (RDev r s34), res1 rfl rfl, fun _ _ h => by rw [hC]; exact (Dr.sat (A' := R * RDev r s34) drqz) _ _ h, e34, s34, by exact pub_o ham hs16 hs27 hs34, rfl, rfl⟩
    · have he27 : e27 ≠ 0 := by simpa using h
      refine tc_skip ?_; refine q_then_n ?_; refine sr ?_; refine tlm ?_; refine tla ?_; refine nq ?_; refine tc_ret ?_; exact ⟨.int .i64 e27, C (RDev r s27), res1 rfl rfl, fun _ _ h => by rw [hC]; exact (Dr.sat (A' := R * RDev r s27) drqz) _ _ h, e27, s27, by exact pub_e2 ham hs16 hs27 he27, rfl, rfl⟩
  · have he16 : e16 ≠ 0 := by simpa using h
    refine tc_skip ?_; refine q_then_n ?_; refine tc_seq ?_; refine sr ?_; refine tlm ?_; refine tv (o_eqi rfl rfl) ?_; refine nq ?_; refine tc_cond rfl (fun h => ?_) (fun h => ?_)
    · exfalso; exact he16 (by simpa using h)
    · try simp only [lv1, lv2, lv3, lv4, lv5, lv6, Bool.not_true, Bool.not_false] at h
      refine tc_skip ?_; refine q_then_n ?_; refine sr ?_; refine tlm ?_; refine tla ?_; refine nq ?_; refine tc_ret ?_; exact ⟨.int .i64 e16, C (RDev r s16), res1 rfl rfl, fun _ _ h => by rw [hC]; exact (Dr.sat (A' := R * RDev r s16) drqz) _ _ h, e16, s16, by exact pub_e1 hs16 he16, rfl, rfl⟩
theorem rClear_c {A R : SP} {C : SP → SP} {r : Nat} {s : DevS} (hc : Ct A (RDev r s) R C := by repeat (first | with_reducible exact ct_here | apply ct_left)) {bk at_ sz : Nat} (hl : Has R bk (cl (lcs11 r at_ sz) 96) := by (repeat (first | assumption | with_reducible exact has_here | with_reducible exact has_pt | apply has_left))) (hlw : LogW (s.ls.length * 64) at_ sz := by assumption) (hroom : Room 1 s := by assumption) :
    Fn Tryz.prog 33 #[.pointer (some ⟨bk, 0, none⟩)] (A) (fun r_ B => ∃ e s2, clearS at_ s = (e, s2) ∧ r_ = .int .i64 e ∧ B = C (RDev r s2)) := by
  refine fn_enterW (args := [.pointer (some ⟨bk, 0, none⟩)]) Tryz.func33 rfl Tryz.ntmps33 (by simp) ?_; refine tc_have (fun _ _ h => wfR_ct hc h) fun hw => ?_
  have htop := hw.top
  have hpos := hw.pos
  obtain ⟨rfl, hC⟩ := hc
  have hAC : ∀ g w, sat g w (R * RDev r s) → sat g w (C (RDev r s)) := fun g w h => by rw [hC]; exact h
  have hlw9 := hlw
  obtain ⟨w1, w2, w3, w4, w5⟩ := hlw9
  refine sr ?_; refine tla ?_; refine nq ?_; refine tc_seq ?_; refine sr ?_; refine tlm ?_; refine tv (o_nilCheck rfl) ?_; refine tv (o_fieldAddr (o := 0) Tryz.underlying96 rfl rfl sz33 rfl) ?_; refine tv (o_load p33 rfl haqz rfl) ?_; refine tv (o_nilCheck rfl) ?_; refine tv (o_fieldAddr (o := 5) Tryz.underlying55 rfl rfl sz4 rfl) ?_; refine tv (o_loadC (b := r) p4 rfl (by repeat (first | exact cellR5 | apply Cell.left))) ?_; refine nq ?_; refine tc_cond rfl (fun h => ?_) (fun h => ?_)
  · try simp only [lv1, lv2, lv3, lv4, lv5, lv6, Bool.not_true, Bool.not_false] at h
    refine sr ?_; refine tla ?_; refine nq ?_; refine tc_ret ?_; refine q_then_r ?_; exact ⟨.int .i64 5, C (RDev r s), res1 rfl rfl, hAC, 5, s, by unfold clearS; rw [if_pos h], rfl, rfl⟩
  · have ho : s.off = false := by simpa using h
    refine tc_skip ?_; refine q_then_n ?_; refine sr ?_; refine tlm ?_; refine tl_c rfl (o_call bd76 rfl (rpub_c (s := s) (n := 0))) ?_; rintro _ _ ⟨e11, s11, hs11, rfl, rfl⟩; refine tla ?_; refine nq ?_; refine tc_ret ?_; exact ⟨.int .i64 e11, C (RDev r s11), res1 rfl rfl, fun _ _ h => by rw [hC]; exact (Dr.sat (A' := R * RDev r s11) drqz) _ _ h, e11, s11, by unfold clearS; rw [if_neg (by rw [ho]; decide)]; exact hs11, rfl, rfl⟩
end Go.Vl

namespace Go.Vl
open Go Go.Proofs
theorem Three_j {A : SP} {a1 a2 a3 : Option Addr} {m1 m2 m3 c1 c2 c3 b : Nat} {xs ys zs : List Nat} {E : TypeId} (h1 : Rs A a1 (bys xs)) (h2 : Rs A a2 (bys ys)) (h3 : Rs A a3 (bys zs)) (e1 : xs.length = m1) (e2 : ys.length = m2) (e3 : zs.length = m3) (hl : m1 + m2 + m3 ≤ 17592186044416) :
    Fn Tryz.prog 104 #[.slice (some ⟨b, 0, none⟩) 3 3] (A * pt b (cl [.slice a1 m1 c1, .slice a2 m2 c2, .slice a3 m3 c3] E)) (fun r B => ∃ a c, r = .slice a (m1 + m2 + m3) c ∧ m1 + m2 + m3 ≤ c ∧ B = A * pt b (cl [.slice a1 m1 c1, .slice a2 m2 c2, .slice a3 m3 c3] E) * Sl 1 (.slice a (m1 + m2 + m3) c) (m1 + m2 + m3) (bys (xs ++ ys ++ zs))) := by
  subst e1 e2 e3
  refine fn_rs (xs := [.slice a1 xs.length c1, .slice a2 ys.length c2, .slice a3 zs.length c3]) rs_pt0 fun hr => ?_; refine fn_rs h1.left fun h1 => fn_rs h2.left fun h2 => fn_rs h3.left fun h3 => ?_
  have key := JoinN_f (A * pt b (cl [.slice a1 xs.length c1, .slice a2 ys.length c2, .slice a3 zs.length c3] E)) (some ⟨b, 0, none⟩) 3 3 [xs, ys, zs] ⟨_, rfl, hr, fun i hi => by
    match i, hi with
    | 0, _ => exact ⟨a1, c1, rfl, h1⟩
    | 1, _ => exact ⟨a2, c2, rfl, h2⟩
    | 2, _ => exact ⟨a3, c3, rfl, h3⟩⟩ (by simp; omega) (by simp) rfl
  have e : ([xs, ys, zs] : List (List Nat)).flatten = xs ++ ys ++ zs := by simp
  rw [e] at key
  have e3 : (xs ++ ys ++ zs).length = xs.length + ys.length + zs.length := by simp [Nat.add_assoc]
  rw [e3] at key
  exact fn_sl key
theorem room_sub {at_ sz p k : Nat} {s : DevS} {room : List Nat} (hroom : roomS at_ sz s = room) (h : p + k ≤ sz - 64) : ((imgS s).drop (at_ + 64 + p)).take k = (room.drop p).take k := by
  rw [← hroom]; unfold roomS
  rw [List.drop_take, List.drop_drop, List.take_take, Nat.min_eq_left oqz]
theorem may_big2 {n at_ sz w m : Nat} (h : n < w ∨ n < m) : mayX n at_ sz ((w : Int), (m : Int)) = false := decide_eq_false (by show ¬ ((1 : Int) ≤ (m : Int) ∧ (64 : Int) ≤ (w : Int) ∧ (w : Int) + (m : Int) ≤ (n : Int) ∧ _); omega)
theorem rnd_small {m : Nat} (h : m ≤ 4194304) : rndS m = (((up8 m : Nat) : Int), 0) := by
  unfold rndS; have : pad8 m < 8 := (by unfold pad8; omega); rw [if_neg oqz]
attribute [local irreducible] crk crL crc Sl pt ro Dev RDev imgS recS
theorem rRec_c {A : SP} {a : Option Addr} {c m p : Nat} {xs : List Nat} (hr : Rs A a (bys xs) := by repeat (first | assumption | with_reducible exact rs_sl | with_reducible exact rs_pt0 | exact rs_none | apply Rs.left)) (hm : xs.length = m := by first | assumption | rfl) (hb : ∀ x ∈ xs, x < 256 := by assumption) (hp : p < 9223372036854775808 := by omega) (hml : m ≤ 549755813888 := by omega) :
    Fn Tryz.prog 74 #[.int .i64 (p : Nat), .slice a m c] (A) (fun r B => ∃ a2 c2, r = .slice a2 (24 + up8 m) c2 ∧ 24 + up8 m ≤ c2 ∧ B = A * Sl 1 (.slice a2 (24 + up8 m) c2) (24 + up8 m) (bys (recS p xs))) := by
  refine fn_enterW (args := [.int .i64 (p : Nat), .slice a m c]) Tryz.func74 rfl Tryz.ntmps74 (by simp) ?_
  obtain ⟨Z, hZ⟩ : ∃ Z, crc 0 (recH p m ++ xs) = Z := ⟨_, rfl⟩
  have hZb : ∀ x ∈ recH p m ++ xs, x < 256 := fun x hx => by rcases List.mem_append.1 hx with h1 | h1; exact recH_b _ _ x h1; exact hb x h1
  have hZl : Z < 4294967296 := hZ ▸ crc_lt (by decide) hZb
  obtain ⟨Y, hY⟩ : ∃ Y, recH p m ++ le 8 Z ++ xs = Y := ⟨_, rfl⟩
  have hYl : Y.length = 24 + m := by rw [← hY, List.length_append, List.length_append, recH_len, le_length, hm]
  have hYr : recS p xs = Y ++ List.replicate (pad8 m) 0 := by rw [← hY, ← hZ, ← hm]; exact recS_eq _ _
  refine sr ?_; refine tla ?_; refine nq ?_; refine sr ?_; refine tlm ?_; refine tv (by first | exact o_conv64 Tryz.underlying3 Tryz.underlying66 rfl | exact o_conv Tryz.underlying3 Tryz.underlying66 rfl) ?_; refine tl_env (d := 9) (v := .int .u64 ((p : Nat) : Int)) (congrArg (fun z : Nat => Value.int .u64 (z : Int)) (Nat.mod_eq_of_lt oqz)) ?_; refine tl_c rfl (o_call bd88 rfl (Little_c (v := p) (n := 8))) ?_; rintro _ _ ⟨a10, c10, rfl, hc10, rfl⟩; refine tlm ?_; refine tv (o_len Tryz.underlying22 rfl) ?_; refine tv (by first | exact o_conv64 Tryz.underlying3 Tryz.underlying66 rfl | exact o_conv Tryz.underlying3 Tryz.underlying66 rfl) ?_; refine tl_env (d := 13) (v := .int .u64 ((m : Nat) : Int)) (congrArg (fun z : Nat => Value.int .u64 (z : Int)) (Nat.mod_eq_of_lt oqz)) ?_; refine tl_c rfl (o_call bd88 rfl (Little_c (v := m) (n := 8))) ?_; rintro _ _ ⟨a14, c14, rfl, hc14, rfl⟩; refine tl_c rfl (o_call bd102 rfl (Two_c (xs := le 8 p) (ys := le 8 m) (h1 := (by repeat (first | with_reducible exact rs_sl | assumption | apply Rs.left))) (h2 := (by repeat (first | with_reducible exact rs_sl | assumption | apply Rs.left))) (e1 := le_length 8 p) (e2 := le_length 8 m))) ?_; rintro _ _ ⟨a15, c15, rfl, hc15, rfl⟩; refine tla ?_; refine nq ?_; refine sr ?_; refine tlm ?_; refine tlm ?_; refine tl_c rfl (o_call bd102 rfl (Two_c (xs := le 8 p ++ le 8 m) (ys := xs) (h1 := (by repeat (first | with_reducible exact rs_sl | assumption | apply Rs.left))) (h2 := (by repeat (first | with_reducible exact rs_sl | assumption | apply Rs.left))) (e1 := by rw [List.length_append, le_length, le_length]) (e2 := hm))) ?_
  rintro _ _ ⟨a18, c18, rfl, hc18, rfl⟩; refine tl_c rfl (o_call bd103 rfl (SumR_c (xs := le 8 p ++ le 8 m ++ xs) (hr := (by repeat (first | with_reducible exact rs_sl | assumption | apply Rs.left))) (hm := by rw [List.length_append, List.length_append, le_length, le_length, hm]) (hb := hZb))) ?_; rintro _ _ ⟨rfl, rfl⟩; refine tl_env (d := 19) (v := .int .u32 ((Z : Nat) : Int)) (by show Value.int .u32 ((crc 0 (recH p m ++ xs) : Nat) : Int) = _; rw [hZ]) ?_; refine tla ?_; refine nq ?_; refine sr ?_; refine tlm ?_; refine tlm ?_; refine tv (by first | exact o_conv64 Tryz.underlying144 Tryz.underlying66 rfl | exact o_conv Tryz.underlying144 Tryz.underlying66 rfl) ?_; refine tl_env (d := 22) (v := .int .u64 ((Z : Nat) : Int)) (congrArg (fun z : Nat => Value.int .u64 (z : Int)) (Nat.mod_eq_of_lt oqz)) ?_; refine tl_c rfl (o_call bd88 rfl (Little_c (v := Z) (n := 8))) ?_; rintro _ _ ⟨a23, c23, rfl, hc23, rfl⟩; refine tlm ?_; refine tl_x rfl (o_buildSliceL (k := 1) (vs := [.slice a15 (8 + 8) c15, .slice a23 8 c23, .slice a m c]) (l := [.slice a15 (8 + 8) c15, .slice a23 8 c23, .slice a m c]) Tryz.underlying75 sz22 z22 rfl rfl (by decide) (by decide) (by intro v hv; simp at hv; rcases hv with rfl | rfl | rfl <;> rfl) rfl) ?_; rintro _ _ ⟨b25, rfl, rfl⟩; refine tl_c rfl (o_call bd104 rfl (Three_j (xs := le 8 p ++ le 8 m) (ys := le 8 Z) (zs := xs) (h1 := (by repeat (first | with_reducible exact rs_sl | assumption | apply Rs.left))) (h2 := (by repeat (first | with_reducible exact rs_sl | assumption | apply Rs.left))) (h3 := (by repeat (first | with_reducible exact rs_sl | assumption | apply Rs.left))) (e1 := by rw [List.length_append, le_length, le_length]) (e2 := le_length 8 Z) (e3 := hm) (hl := by omega))) ?_
  rintro _ _ ⟨a26, c26, rfl, hc26, rfl⟩; refine tla ?_; refine nq ?_; refine tc_seq ?_; refine tc_block ?_; refine tc_pre (A' := A * Sl 1 (.slice a26 (24 + m + 0) c26) (24 + m + 0) (bys (Y ++ List.replicate 0 0))) (fun g w h => by have h2 := Dr.sat (A' := A * Sl 1 (.slice a26 (8 + 8 + 8 + m) c26) (8 + 8 + 8 + m) (bys (le 8 p ++ le 8 m ++ le 8 Z ++ xs))) drqz g w h; rw [show le 8 p ++ le 8 m ++ le 8 Z ++ xs = Y from hY] at h2; rw [show 24 + m + 0 = 8 + 8 + 8 + m by omega, List.replicate_zero, List.append_nil]; exact h2) ?_; refine tc_loop (fun kk ρ BB => ∃ (i : Nat) (a5 : Option Addr) (c5 : Nat), (i ≤ pad8 m) ∧ (24 + m + i ≤ c5) ∧ kk = pad8 m - i ∧ ρ 7 = .slice a5 (24 + m + i) c5 ∧ Dr BB (A * Sl 1 (.slice a5 (24 + m + i) c5) (24 + m + i) (bys (Y ++ List.replicate i 0)))) (m := pad8 m - (0)) ?_ ?_
  · exact ⟨0, a26, c26, by omega, by omega, rfl, by rw [show 24 + m + 0 = 8 + 8 + 8 + m by omega]; rfl, drqz⟩
  · intro k ρ B hI
    obtain ⟨i, a5, c5, hp0, hp1, hkk1, hE7, hBA⟩ := hI
    refine tc_pre hBA.sat ?_
    clear hBA
    refine tc_env (d := 7) hE7 ?_
    clear hE7
    refine tc_seq ?_; refine sr ?_; refine tlm ?_; refine tv (o_len Tryz.underlying22 rfl) ?_; refine tv (o_remN (b := 8) rfl rfl (by decide)) ?_; refine tl_env (d := 29) (v := .int .i64 (((24 + m + i) % 8 : Nat) : Int)) (by first | rfl | (show Value.int .i64 _ = _; congr 1; omega)) ?_; refine tv (o_nei rfl rfl) ?_; refine nq ?_; refine tc_cond rfl (fun h => ?_) (fun h => ?_)
    · have hi : i < pad8 m := by have h9 : (24 + m + i) % 8 ≠ 0 := (by first | omega | (simp at h; omega)); unfold pad8 at *; omega
      have hi8 : i < 8 := by have : pad8 m < 8 := (by unfold pad8; omega); omega
      refine tc_skip ?_; refine q_then_n ?_; refine tc_block ?_; refine tc_reg ?_; refine tlm ?_; refine tl_x rfl (o_buildSliceL (k := 1) (vs := bys [0]) (l := bys [0]) Tryz.underlying22 sz5 z5 rfl rfl (by decide) (by decide) (by intro v hv; simp only [bys, b8, List.map_cons, List.map_nil, List.mem_cons, List.not_mem_nil, or_false] at hv; rcases hv with rfl; rfl) rfl) ?_; rintro _ _ ⟨b32, rfl, rfl⟩; refine tl_x rfl (o_apB Tryz.underlying22 Tryz.underlying22 sz5 by5 z5 rfl (by decide) (by decide) rfl rfl rfl ctqz rfl rfl oqz (show _ = bys (Y ++ List.replicate i 0 ++ [0]) by rw [← bys_append])) ?_; rintro _ _ ⟨a33, c33, rfl, hc33, rfl⟩; refine tla ?_; refine tl_nil ?_; refine q_block_n (q_then_n ?_); exact ⟨_, by omega, i + 1, a33, c33, by omega, by omega, rfl, rfl, by rw [List.replicate_succ', ← List.append_assoc]; repeat (first | with_reducible exact dr_refl | apply dr_keep | apply dr_drop)⟩
    · obtain rfl : i = pad8 m := by have h9 : (24 + m + i) % 8 = 0 := (by first | omega | (simp at h; omega)); unfold pad8 at *; omega
      refine tc_exit ?_; refine q_then_e (q_then_e (q_block_x (q_then_n ?_))); refine sr ?_; refine tlm ?_; refine tla ?_; refine nq ?_; refine tc_ret ?_
      rw [hYr, show 24 + up8 m = 24 + m + pad8 m by unfold up8; omega]
      exact ⟨_, _, res1 rfl rfl, Dr.sat drqz, a5, c5, rfl, hp1, rfl⟩
set_option maxRecDepth 20000 in
set_option maxHeartbeats 2000000 in
theorem rread_c {A R : SP} {C : SP → SP} {r : Nat} {s : DevS} (hc : Ct A (RDev r s) R C := by repeat (first | with_reducible exact ct_here | apply ct_left)) {bk at_ sz : Nat} (hl : Has R bk (cl (lcs11 r at_ sz) 96) := by (repeat (first | assumption | with_reducible exact has_here | with_reducible exact has_pt | apply has_left))) (hlw : LogW (s.ls.length * 64) at_ sz := by assumption) {q p : Nat} {room : List Nat} (ho : s.off = false := by assumption) (hroom : roomS at_ sz s = room := by assumption) (hq : q = at_ + 64 + p := by omega) (hp : p ≤ sz - 64 := by omega) :
    Fn Tryz.prog 77 #[.pointer (some ⟨bk, 0, none⟩), .int .i64 (q : Nat)] (A) (fun r_ B => ∃ a2 c2, r_ = .tuple #[.agg #[.int .i64 ((rdW (readS (s.ls.length * 64) at_ sz room p) : Nat) : Int), .slice a2 (rdO (readS (s.ls.length * 64) at_ sz room p)).length c2], .int .i64 ((rkT (readS (s.ls.length * 64) at_ sz room p) : Nat) : Int), .bool (readS (s.ls.length * 64) at_ sz room p).isSome] ∧ (rdO (readS (s.ls.length * 64) at_ sz room p)).length ≤ c2 ∧ B = C (RDev r s) * Sl 1 (.slice a2 (rdO (readS (s.ls.length * 64) at_ sz room p)).length c2) (rdO (readS (s.ls.length * 64) at_ sz room p)).length (bys (rdO (readS (s.ls.length * 64) at_ sz room p)))) := by
  refine fn_enterW (args := [.pointer (some ⟨bk, 0, none⟩), .int .i64 (q : Nat)]) Tryz.func77 rfl Tryz.ntmps77 (by simp) ?_; refine tc_have (fun _ _ h => wfR_ct hc h) fun hw => ?_
  have htop := hw.top
  have hpos := hw.pos
  obtain ⟨rfl, hC⟩ := hc
  rw [hC]
  have hlw9 := hlw
  obtain ⟨w1, w2, w3, w4, w5⟩ := hlw9
  have hil := imgS_len hw
  have hrl : room.length = sz - 64 := by rw [← hroom]; unfold roomS; rw [List.length_take, List.length_drop, hil]; omega
  have hb : ∀ x ∈ room, x < 256 := fun x hx => by rw [← hroom] at hx; exact img_sub x hx
  obtain ⟨w, hwq⟩ : ∃ w, (nm ((room.drop p).take 8)) = w := ⟨_, rfl⟩
  obtain ⟨m, hmq⟩ : ∃ m, (nm ((room.drop (p + 8)).take 8)) = m := ⟨_, rfl⟩
  have hw8 : w < 18446744073709551616 := hwq ▸ nm8_lt fun x hx => hb x (List.mem_of_mem_drop hx)
  have hm8 : m < 18446744073709551616 := hmq ▸ nm8_lt fun x hx => hb x (List.mem_of_mem_drop hx)
  refine sr ?_; refine tl_x rfl (o_alloc z92 rfl) ?_; rintro _ _ ⟨b4, rfl, rfl⟩; refine tla ?_; refine tla ?_; refine nq ?_; refine tc_seq ?_; refine tc_regq mo kqz ?_; refine ql_v rfl (o_move (by conv => lhs; whnf)) ?_; refine ql_v rfl (o_nilCheck rfl) ?_; refine ql_v rfl (o_fieldAddr (o := 1) Tryz.underlying96 rfl rfl sz3 rfl) ?_; refine ql_v rfl (o_load p3 rfl haqz rfl) ?_; refine ql_v rfl (o_move (by conv => lhs; whnf)) ?_; refine ql_v rfl (o_nilCheck rfl) ?_; refine ql_v rfl (o_fieldAddr (o := 2) Tryz.underlying96 rfl rfl sz3 rfl) ?_; refine ql_v rfl (o_load p3 rfl haqz rfl) ?_; refine ql_v rfl adqz ?_; refine ql_env (d := 25) (v := .int .i64 ((at_ + sz : Nat) : Int)) (by first | rfl | (show Value.int .i64 _ = _; congr 1; omega)) ?_; refine ql_v rfl (o_assign (by conv => lhs; whnf)) ?_; refine ql_nil ?_; refine q_then_n ?_; refine tc_seq ?_; refine sr ?_; refine tlm ?_; refine tlm ?_; refine tv (o_subI rfl rfl oqz) ?_; refine tv (o_lss rfl rfl) ?_; refine nq ?_; refine tc_cond rfl (fun h => ?_) (fun h => ?_)
  · have hsh : room.length < p + 24 := by first | omega | (simp at h; omega)
    refine sr ?_; refine tv (o_bS (l := [_, _]) pv_nil Tryz.underlying92 z92 (pl92 Tryz.underlying92) rfl) ?_; refine tl_u rfl (o_stUN rfl upqz sz92 rfl rfl rfl (by first | decide | simp | omega) rfl) ?_; refine tla ?_; refine tla ?_; refine nq ?_; refine tc_ret ?_; refine q_then_r ?_
    have e0 : (readS (s.ls.length * 64) at_ sz room p) = none := by exact read_short hsh
    rw [e0]
    exact ⟨.tuple #[.agg #[.int .i64 0, .slice none 0 0], .int .i64 0, .bool false], R * RDev r s * Sl 1 (.slice none 0 0) 0 [], resA3 rfl (rv_cell a92 sz92 rfl hsqz (by show 2 ≤ 2; decide) rfl) (rv_tmp rfl) (rv_tmp rfl), fun _ _ h => sl_nil (Dr.sat drqz _ _ h), none, 0, rfl, Nat.le_refl _, rfl⟩
  · have hsh : ¬ room.length < p + 24 := by first | omega | (simp at h; omega)
    have hwq2 : nm (((imgS s).drop q).take 8) = w := by rw [hq, room_sub hroom oqz]; exact hwq
    have hmq2 : nm (((imgS s).drop (q + 8)).take 8) = m := by rw [hq, show at_ + 64 + p + 8 = at_ + 64 + (p + 8) by omega, room_sub hroom oqz]; exact hmq
    refine tc_skip ?_; refine q_then_n ?_; refine sr ?_; refine tlm ?_; refine tlm ?_; refine tl_c rfl (o_call bd70 rfl (rnum_c (s := s) (q := q))) ?_; rintro _ _ ⟨rfl, rfl⟩; refine tl_env (d := 33) (v := .int .u64 (w : Nat)) (by show Value.int .u64 ((nm (((imgS s).drop q).take 8) : Nat) : Int) = _; rw [hwq2]) ?_; refine tla ?_; refine nq ?_; refine sr ?_; refine tlm ?_; refine tlm ?_; refine tv adqz ?_; refine tl_env (d := 36) (v := .int .i64 ((q + 8 : Nat) : Int)) (by first | rfl | (show Value.int .i64 _ = _; congr 1; omega)) ?_; refine tl_c rfl (o_call bd70 rfl (rnum_c (s := s) (q := q + 8))) ?_; rintro _ _ ⟨rfl, rfl⟩; refine tl_env (d := 37) (v := .int .u64 (m : Nat)) (by show Value.int .u64 ((nm (((imgS s).drop (q + 8)).take 8) : Nat) : Int) = _; rw [hmq2]) ?_; refine tla ?_; refine nq ?_; refine tc_seq ?_; refine tc_seq ?_; refine tc_cut (fun ρ BB => ∃ (bb : Bool), (bb = decide (s.ls.length * 64 < w ∨ s.ls.length * 64 < m)) ∧ ρ 59 = .bool bb ∧ ρ 0 = .pointer (some ⟨bk, 0, none⟩) ∧ ρ 1 = .int .i64 (q : Nat) ∧ ρ 4 = .pointer (some ⟨b4, 0, none⟩) ∧ ρ 7 = .int .i64 ((at_ + sz : Nat) : Int) ∧ ρ 8 = .int .u64 (w : Nat) ∧ ρ 9 = .int .u64 (m : Nat) ∧ BB = R * RDev r s * pt b4 (cl [.int .i64 0, .slice none 0 0] 92)) ?_ ?_
    · skip
      refine tc_reg ?_; refine tlm ?_; refine tlm ?_; refine tv (o_nilCheck rfl) ?_; refine tv (o_fieldAddr (o := 0) Tryz.underlying96 rfl rfl sz33 rfl) ?_; refine tv (o_load p33 rfl haqz rfl) ?_; refine tv (o_nilCheck rfl) ?_; refine tv (o_fieldAddr (o := 0) Tryz.underlying55 rfl rfl sz3 rfl) ?_; refine tv (o_loadC (b := r) p3 rfl (by repeat (first | exact cellR0 | apply Cell.left))) ?_; refine tv (by first | exact o_conv64 Tryz.underlying3 Tryz.underlying66 rfl | exact o_conv Tryz.underlying3 Tryz.underlying66 rfl) ?_; refine tl_env (d := 46) (v := .int .u64 ((s.ls.length * 64 : Nat) : Int)) (congrArg (fun z : Nat => Value.int .u64 (z : Int)) (Nat.mod_eq_of_lt oqz)) ?_; refine tv (o_gtr rfl rfl) ?_; refine tlm ?_; refine tl_bool (d := 48) rfl (fun h => ?_) (fun h => ?_)
      · have g48 : (s.ls.length * 64 < w) := by first | exact of_decide_eq_true h | (have h2 := h; simp at h2; omega) | simpa using h
        refine tk ?_; refine tk ?_; refine tk ?_; refine tk ?_; refine tk ?_; refine tk ?_; refine tk ?_; refine tk ?_; refine tk ?_; refine tk ?_; refine tv (o_pick_t rfl (by conv => lhs; whnf)) ?_; refine tl_nil ?_; exact ⟨_, by first | exact (decide_eq_true oqz).symm | exact (decide_eq_false oqz).symm | (rw [decide_eq_decide]; omega), rfl, rfl, rfl, rfl, rfl, rfl, rfl, rfl⟩
      · have g48 : ¬ (s.ls.length * 64 < w) := by first | exact of_decide_eq_false h | (have h2 := h; simp at h2; omega) | simpa using h
        refine tlm ?_; refine tlm ?_; refine tv (o_nilCheck rfl) ?_; refine tv (o_fieldAddr (o := 0) Tryz.underlying96 rfl rfl sz33 rfl) ?_; refine tv (o_load p33 rfl haqz rfl) ?_; refine tv (o_nilCheck rfl) ?_; refine tv (o_fieldAddr (o := 0) Tryz.underlying55 rfl rfl sz3 rfl) ?_; refine tv (o_loadC (b := r) p3 rfl (by repeat (first | exact cellR0 | apply Cell.left))) ?_; refine tv (by first | exact o_conv64 Tryz.underlying3 Tryz.underlying66 rfl | exact o_conv Tryz.underlying3 Tryz.underlying66 rfl) ?_; refine tl_env (d := 57) (v := .int .u64 ((s.ls.length * 64 : Nat) : Int)) (congrArg (fun z : Nat => Value.int .u64 (z : Int)) (Nat.mod_eq_of_lt oqz)) ?_; refine tv (o_gtr rfl rfl) ?_; refine tv (o_pick_f rfl (by conv => lhs; whnf)) ?_; refine tl_nil ?_; exact ⟨_, by first | exact (decide_eq_true oqz).symm | exact (decide_eq_false oqz).symm | (rw [decide_eq_decide]; omega), rfl, rfl, rfl, rfl, rfl, rfl, rfl, rfl⟩
    · intro ρ B hI
      obtain ⟨bb, hbb0, hE59, hE0, hE1, hE4, hE7, hE8, hE9, rfl⟩ := hI
      refine q_then_n ?_; refine tc_env (d := 59) hE59 ?_; refine tc_env (d := 0) hE0 ?_; refine tc_env (d := 1) hE1 ?_; refine tc_env (d := 4) hE4 ?_; refine tc_env (d := 7) hE7 ?_; refine tc_env (d := 8) hE8 ?_; refine tc_env (d := 9) hE9 ?_
      clear hE59 hE0 hE1 hE4 hE7 hE8 hE9
      refine tc_cond rfl (fun h => ?_) (fun h => ?_)
      · have hbig := of_decide_eq_true (show decide (s.ls.length * 64 < w ∨ s.ls.length * 64 < m) = true by rw [← hbb0]; exact h)
        refine sr ?_; refine tv (o_bS (l := [_, _]) pv_nil Tryz.underlying92 z92 (pl92 Tryz.underlying92) rfl) ?_; refine tl_u rfl (o_stUN rfl upqz sz92 rfl rfl rfl (by first | decide | simp | omega) rfl) ?_; refine tla ?_; refine tla ?_; refine nq ?_; refine tc_ret ?_; refine q_then_r ?_
        have e0 : (readS (s.ls.length * 64) at_ sz room p) = none := by exact read_may (by rw [hwq, hmq]; exact may_big2 hbig)
        rw [e0]
        exact ⟨.tuple #[.agg #[.int .i64 0, .slice none 0 0], .int .i64 0, .bool false], R * RDev r s * Sl 1 (.slice none 0 0) 0 [], resA3 rfl (rv_cell a92 sz92 rfl hsqz (by show 2 ≤ 2; decide) rfl) (rv_tmp rfl) (rv_tmp rfl), fun _ _ h => sl_nil (Dr.sat drqz _ _ h), none, 0, rfl, Nat.le_refl _, rfl⟩
      · have hbig := of_decide_eq_false (show decide (s.ls.length * 64 < w ∨ s.ls.length * 64 < m) = false by rw [← hbb0]; exact h)
        have hxw : XW ((w : Int), (m : Int)) := ⟨by show -9223372036854775808 ≤ (w : Int) ∧ (w : Int) ≤ 9223372036854775807; omega, by show -9223372036854775808 ≤ (m : Int) ∧ (m : Int) ≤ 9223372036854775807; omega⟩
        refine tc_skip ?_; refine q_then_n ?_; refine sr ?_; refine tlm ?_; refine tv (o_conv Tryz.underlying66 Tryz.underlying3 rfl) ?_; refine tl_env (d := 62) (v := .int .i64 (w : Nat)) (by show Value.int .i64 (IntKind.i64.wrap _) = _; rw [wr_i64 oqz]) ?_; refine tlm ?_; refine tv (o_conv Tryz.underlying66 Tryz.underlying3 rfl) ?_; refine tl_env (d := 64) (v := .int .i64 (m : Nat)) (by show Value.int .i64 (IntKind.i64.wrap _) = _; rw [wr_i64 oqz]) ?_; refine tv (o_bS (l := [_, _]) (pv_cons (by conv => lhs; whnf) (pv_cons (by conv => lhs; whnf) pv_nil)) Tryz.underlying82 z82 (pl82 Tryz.underlying82) rfl) ?_; refine tl_x rfl (o_alloc z82 rfl) ?_; rintro _ _ ⟨b10, rfl, rfl⟩; refine tl_u rfl (o_stUN (l' := xcs ((w : Int), (m : Int))) rfl upqz sz82 rfl rfl rfl (by show 2 ≤ 2; decide) rfl) ?_; refine nq ?_; refine tc_seq ?_; refine sr ?_; refine tlm ?_; refine tv (o_loadN (vs := xcs ((w : Int), (m : Int))) a82 sz82 rfl hsqz (by show 2 ≤ 2; decide) rfl) ?_; refine tl_c rfl (o_call bd71 rfl (rMay11_c (s := s) (x := ((w : Int), (m : Int))) (hl := by repeat (first | assumption | apply has_left)))) ?_
        rintro _ _ ⟨rfl, rfl⟩; refine tv (o_not rfl) ?_; refine nq ?_; refine tc_cond rfl (fun h => ?_) (fun h => ?_)
        · have hmy : mayX (s.ls.length * 64) at_ sz ((w : Int), (m : Int)) = false := by simpa using h
          refine sr ?_; refine tv (o_bS (l := [_, _]) pv_nil Tryz.underlying92 z92 (pl92 Tryz.underlying92) rfl) ?_; refine tl_u rfl (o_stUN rfl upqz sz92 rfl rfl rfl (by first | decide | simp | omega) rfl) ?_; refine tla ?_; refine tla ?_; refine nq ?_; refine tc_ret ?_; refine q_then_r ?_
          have e0 : (readS (s.ls.length * 64) at_ sz room p) = none := by exact read_may (by rw [hwq, hmq]; exact hmy)
          rw [e0]
          exact ⟨.tuple #[.agg #[.int .i64 0, .slice none 0 0], .int .i64 0, .bool false], R * RDev r s * Sl 1 (.slice none 0 0) 0 [], resA3 rfl (rv_cell a92 sz92 rfl hsqz (by show 2 ≤ 2; decide) rfl) (rv_tmp rfl) (rv_tmp rfl), fun _ _ h => sl_nil (Dr.sat drqz _ _ h), none, 0, rfl, Nat.le_refl _, rfl⟩
        · have hmy : mayX (s.ls.length * 64) at_ sz ((w : Int), (m : Int)) = true := by simpa using h
          have hm1 : 1 ≤ m := by rcases Nat.lt_or_ge m 1 with h9 | h9; rw [may_zero1 h9] at hmy; exact absurd hmy (by decide); exact h9
          have hup := up8_le m
          refine tc_skip ?_; refine q_then_n ?_; refine sr ?_; refine tv (o_fieldAddr (o := 1) Tryz.underlying82 rfl rfl sz3 rfl) ?_; refine tv (by first | exact o_load p3 rfl hsqz rfl | exact o_loadC p3 rfl (by assumption)) ?_; refine tl_c rfl (o_call bd101 rfl (rRound8_c (n := m))) ?_; rintro _ _ ⟨rfl, rfl⟩; refine tlm ?_; refine tv (o_extract rfl rfl) ?_; refine tl_env (d := 75) (v := .int .i64 ((up8 m : Nat) : Int)) (by show Value.int .i64 (rndS m).1 = _; rw [rnd_small oqz]) ?_; refine tv (o_extract rfl rfl) ?_; refine tla ?_; refine tla ?_; refine nq ?_; refine tc_seq ?_; refine sr ?_; refine tlm ?_; refine tlm ?_; refine tlm ?_; refine tv (o_subI rfl rfl oqz) ?_; refine tv (o_subI rfl rfl oqz) ?_; refine tv (o_gtr rfl rfl) ?_; refine nq ?_; refine tc_cond rfl (fun h => ?_) (fun h => ?_)
          · have hnr : room.length < p + (24 + up8 m) := by first | omega | (simp at h; omega)
            refine sr ?_; refine tv (o_bS (l := [_, _]) pv_nil Tryz.underlying92 z92 (pl92 Tryz.underlying92) rfl) ?_; refine tl_u rfl (o_stUN rfl upqz sz92 rfl rfl rfl (by first | decide | simp | omega) rfl) ?_; refine tla ?_; refine tla ?_; refine nq ?_; refine tc_ret ?_; refine q_then_r ?_
            have e0 : (readS (s.ls.length * 64) at_ sz room p) = none := by exact read_need (by rw [hmq]; exact hnr)
            rw [e0]
            exact ⟨.tuple #[.agg #[.int .i64 0, .slice none 0 0], .int .i64 0, .bool false], R * RDev r s * Sl 1 (.slice none 0 0) 0 [], resA3 rfl (rv_cell a92 sz92 rfl hsqz (by show 2 ≤ 2; decide) rfl) (rv_tmp rfl) (rv_tmp rfl), fun _ _ h => sl_nil (Dr.sat drqz _ _ h), none, 0, rfl, Nat.le_refl _, rfl⟩
          · have hnr : ¬ room.length < p + (24 + up8 m) := by first | omega | (simp at h; omega)
            obtain ⟨old, hold⟩ : ∃ old, ((room.drop (p + 24)).take m) = old := ⟨_, rfl⟩
            have holl : old.length = m := by rw [← hold, List.length_take, List.length_drop]; omega
            have hob : ∀ x ∈ old, x < 256 := fun x hx => hb x (List.mem_of_mem_drop (List.mem_of_mem_take (hold.symm ▸ hx)))
            have hold2 : ((imgS s).drop (q + 24)).take m = old := by rw [hq, show at_ + 64 + p + 24 = at_ + 64 + (p + 24) by omega, room_sub hroom oqz]; exact hold
            have htk2 : ((imgS s).drop q).take (24 + up8 m) = (room.drop p).take (24 + up8 m) := by rw [hq, room_sub hroom oqz]
            refine tc_skip ?_; refine q_then_n ?_; refine tc_seq ?_; refine tc_regh (S := R * pt b4 (cl [.int .i64 0, .slice none 0 0] 92) * pt b10 (cl (xcs ((w : Int), (m : Int))) 82)) mo drqz ?_
            show TH _ _ _ _ _ 14 #[ff,ff,ff,ff,ff,ff,ff,ff,ff,ff,ff,ff,ff,ff] _ _
            refine th_take (i := 0) (listed' := #[tt,ff,ff,ff,ff,ff,ff,ff,ff,ff,ff,ff,ff,ff]) rfl kqz kqz kqz rfl rfl (o_move (by conv => lhs; whnf)) ?_; refine th_take (i := 1) (listed' := #[tt,tt,ff,ff,ff,ff,ff,ff,ff,ff,ff,ff,ff,ff]) rfl kqz kqz kqz rfl rfl (o_nilCheck rfl) ?_; refine th_take (i := 2) (listed' := #[tt,tt,tt,ff,ff,ff,ff,ff,ff,ff,ff,ff,ff,ff]) rfl kqz kqz kqz rfl rfl (o_fieldAddr (o := 0) Tryz.underlying96 rfl rfl sz33 rfl) ?_; refine th_take (i := 3) (listed' := #[tt,tt,tt,tt,ff,ff,ff,ff,ff,ff,ff,ff,ff,ff]) rfl kqz kqz kqz rfl rfl (o_load p33 rfl haqz rfl) ?_; refine th_take (i := 4) (listed' := #[tt,tt,tt,tt,tt,ff,ff,ff,ff,ff,ff,ff,ff,ff]) rfl kqz kqz kqz rfl rfl (o_move (by conv => lhs; whnf)) ?_; refine th_take (i := 5) (listed' := #[tt,tt,tt,tt,tt,tt,ff,ff,ff,ff,ff,ff,ff,ff]) rfl kqz kqz kqz rfl rfl adqz ?_; refine th_env (d := 90) (v := .int .i64 ((q + 24 : Nat) : Int)) (by first | rfl | (show Value.int .i64 _ = _; congr 1; omega)) ?_; refine th_take (i := 6) (listed' := #[tt,tt,tt,tt,tt,tt,tt,ff,ff,ff,ff,ff,ff,ff]) rfl kqz kqz kqz rfl rfl (o_fieldAddr (o := 1) Tryz.underlying82 rfl rfl sz3 rfl) ?_
            refine th_take (i := 7) (listed' := #[tt,tt,tt,tt,tt,tt,tt,tt,ff,ff,ff,ff,ff,ff]) rfl kqz kqz kqz rfl rfl (by first | exact o_load p3 rfl hsqz rfl | exact o_loadC p3 rfl (by assumption)) ?_; refine th_one (i := 8) kqz ?_; refine oh_c (i := 8) (listed' := #[tt,tt,tt,tt,tt,tt,tt,tt,tt,ff,ff,ff,ff,ff]) rfl rfl rfl (o_call bd73 rfl (rLoad_c (s := s) (p := q + 24) (m := m))) ?_; rintro _ _ ⟨a93, c93, rfl, hc93, rfl⟩; refine ⟨by repeat (first | with_reducible exact dr_refl | apply dr_keep | apply dr_drop), ?_⟩
            rw [hold2]
            refine th_take (i := 9) (listed' := #[tt,tt,tt,tt,tt,tt,tt,tt,tt,tt,ff,ff,ff,ff]) rfl kqz kqz kqz rfl rfl (o_move (by conv => lhs; whnf)) ?_; refine th_take (i := 10) (listed' := #[tt,tt,tt,tt,tt,tt,tt,tt,tt,tt,tt,ff,ff,ff]) rfl kqz kqz kqz rfl rfl (o_extract rfl rfl) ?_; refine th_take (i := 11) (listed' := #[tt,tt,tt,tt,tt,tt,tt,tt,tt,tt,tt,tt,ff,ff]) rfl kqz kqz kqz rfl rfl (o_extract rfl rfl) ?_; refine th_take (i := 12) (listed' := #[tt,tt,tt,tt,tt,tt,tt,tt,tt,tt,tt,tt,tt,ff]) rfl kqz kqz kqz rfl rfl (o_assign (by conv => lhs; whnf)) ?_; refine th_take (i := 13) (listed' := #[tt,tt,tt,tt,tt,tt,tt,tt,tt,tt,tt,tt,tt,tt]) rfl kqz kqz kqz rfl rfl (o_assign (by conv => lhs; whnf)) ?_; refine th_done kqz ?_; refine q_then_n ?_; refine sr ?_; refine tlm ?_; refine tv (o_nilCheck rfl) ?_; refine tv (o_fieldAddr (o := 0) Tryz.underlying96 rfl rfl sz33 rfl) ?_; refine tv (o_load p33 rfl haqz rfl) ?_; refine tlm ?_; refine tlm ?_; refine tv adqz ?_; refine tl_env (d := 103) (v := .int .i64 ((24 + up8 m : Nat) : Int)) (by first | rfl | (show Value.int .i64 _ = _; congr 1; omega)) ?_
            refine tl_c rfl (o_call bd73 rfl (rLoad_c (s := s) (p := q) (m := 24 + up8 m))) ?_; rintro _ _ ⟨a104, c104, rfl, hc104, rfl⟩
            rw [htk2]
            refine tlm ?_; refine tv (o_extract rfl rfl) ?_; refine tv (o_extract rfl rfl) ?_; refine tla ?_; refine tla ?_; refine nq ?_; refine tc_seq ?_; refine sr ?_; refine tlm ?_; refine tv (o_fieldAddr (o := 0) Tryz.underlying82 rfl rfl sz3 rfl) ?_; refine tv (by first | exact o_load p3 rfl hsqz rfl | exact o_loadC p3 rfl (by assumption)) ?_; refine tlm ?_; refine tl_c rfl (o_call bd74 rfl (rRec_c (p := w) (m := m) (xs := old) (hr := (by repeat (first | with_reducible exact rs_sl | assumption | apply Rs.left))) (hm := holl))) ?_; rintro _ _ ⟨a111, c111, rfl, hc111, rfl⟩; refine tl_c rfl (o_call bd14 rfl (EqBytes_c (xs := (room.drop p).take (24 + up8 m)) (ys := recS w old) (h1 := (by repeat (first | with_reducible exact rs_sl | assumption | apply Rs.left))) (h2 := (by repeat (first | with_reducible exact rs_sl | assumption | apply Rs.left))) (hx := by rw [List.length_take, List.length_drop]; omega) (hy := by rw [recS_len, holl]))) ?_; rintro _ _ ⟨rfl, rfl⟩; refine tv (o_not rfl) ?_; refine nq ?_; refine tc_cond rfl (fun h => ?_) (fun h => ?_)
            · have hne : recS w old ≠ (room.drop p).take (24 + up8 m) := fun e => by rw [e] at h; simp at h
              refine sr ?_; refine tv (o_bS (l := [_, _]) pv_nil Tryz.underlying92 z92 (pl92 Tryz.underlying92) rfl) ?_; refine tl_u rfl (o_stUN rfl upqz sz92 rfl rfl rfl (by first | decide | simp | omega) rfl) ?_; refine tla ?_; refine tla ?_; refine nq ?_; refine tc_ret ?_; refine q_then_r ?_
              have e0 : (readS (s.ls.length * 64) at_ sz room p) = none := by exact read_bad hwq hmq (by rw [hold]; exact hne)
              rw [e0]
              exact ⟨.tuple #[.agg #[.int .i64 0, .slice none 0 0], .int .i64 0, .bool false], R * RDev r s * Sl 1 (.slice none 0 0) 0 [], resA3 rfl (rv_cell a92 sz92 rfl hsqz (by show 2 ≤ 2; decide) rfl) (rv_tmp rfl) (rv_tmp rfl), fun _ _ h => sl_nil (Dr.sat drqz _ _ h), none, 0, rfl, Nat.le_refl _, rfl⟩
            · have heq : recS w old = (room.drop p).take (24 + up8 m) := (show (room.drop p).take (24 + up8 m) = recS w old by simpa using h).symm
              refine tc_skip ?_; refine q_then_n ?_; refine sr ?_; refine tv (o_fieldAddr (o := 0) Tryz.underlying82 rfl rfl sz3 rfl) ?_; refine tv (by first | exact o_load p3 rfl hsqz rfl | exact o_loadC p3 rfl (by assumption)) ?_; refine tlm ?_; refine tv (o_bS (l := [_, _]) (pv_cons (by conv => lhs; whnf) (pv_cons (by conv => lhs; whnf) pv_nil)) Tryz.underlying92 z92 (pl92 Tryz.underlying92) rfl) ?_; refine tlm ?_; refine tv adqz ?_; refine tl_env (d := 120) (v := .int .i64 ((24 + up8 m : Nat) : Int)) (by first | rfl | (show Value.int .i64 _ = _; congr 1; omega)) ?_; refine tl_u rfl (o_stUN (l' := [.int .i64 (w : Int), .slice a93 m c93]) rfl upqz sz92 rfl rfl rfl (by show 2 ≤ 2; decide) rfl) ?_; refine tla ?_; refine tla ?_; refine nq ?_; refine tc_ret ?_
              have e0 : (readS (s.ls.length * 64) at_ sz room p) = some ((w, old), 24 + up8 m) := by rw [← hold]; exact read_good hwq hmq hsh hmy hnr (by rw [hold]; exact heq)
              rw [e0]
              exact ⟨.tuple #[.agg #[.int .i64 (w : Int), .slice a93 m c93], .int .i64 ((24 + up8 m : Nat) : Int), .bool true], R * RDev r s * Sl 1 (.slice a93 m c93) m (bys old), resA3 rfl (rv_cell a92 sz92 rfl hsqz (by show 2 ≤ 2; decide) rfl) (rv_tmp rfl) (rv_tmp rfl), Dr.sat drqz, a93, c93, by show _ = Value.tuple #[.agg #[.int .i64 (w : Int), .slice a93 old.length c93], _, _]; rw [holl]; rfl, by show old.length ≤ c93; rw [holl]; exact hc93, by show _ = R * RDev r s * Sl 1 (.slice a93 old.length c93) old.length (bys old); rw [holl]⟩
end Go.Vl

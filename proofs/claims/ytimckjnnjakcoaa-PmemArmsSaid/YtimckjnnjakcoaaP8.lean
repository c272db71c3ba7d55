/- vellumlaw08: PmemArms. Conditions: none. -/
import Derived.Test.YtimckjnnjakcoaaP7
set_option linter.unusedVariables false
set_option linter.unusedSimpArgs false
namespace Go.Vl
open Go Go.Proofs

attribute [local irreducible] Sl Dev PlD SlR pt ro armP

theorem ct_wf {A R : SP} {C : SP → SP} {d : Nat} {s : DevS} (hc : Ct A (Dev d s) R C) {g : Gh} {w : World} (hs : sat g w A) : WfD s := by
  obtain ⟨rfl, _⟩ := hc; exact (dev_iff.1 hs).1
theorem WfP.mono {r r' : Nat} {P : PlS} (h : WfP r P) (hr : r' ≤ r) : WfP r' P := ⟨h.pos, h.top, h.ls, h.seen, h.held, h.last, h.sure, fun l hl => by have := h.room l hl; omega, fun l hl => by have := h.hroom l hl; omega⟩
theorem room_goes {k : Nat} {keep : List Int} {s t : DevS} (h : s.ls = (goesS keep t).ls) (hk : k ≤ 1000) : Room k s := fun l hl => by
  rw [h] at hl
  simp only [goesS, goPart] at hl
  obtain ⟨j, hj, rfl⟩ := List.mem_iff_getElem.1 hl
  simp only [List.getElem_mapIdx]
  simp only [List.length_mapIdx] at hj
  rw [if_pos hj]; simp [goL]; omega
theorem img_ls {s t : DevS} (h : s.ls = t.ls) : imgS s = imgS t := by unfold imgS; rw [h]

set_option maxRecDepth 20000 in
set_option maxHeartbeats 1000000 in
theorem PmemArmsW_f (F : SP) (lines after0 : Int) (a a2 ak : Option Addr) (c c2 ck n : Nat) (ss : List StepC) (keep kp : List Int) (hn : n = 1 + wi lines 4) (hr : Rs F a (scs ss)) (hr2 : Rs F a2 (ints keep)) (hss : ∀ t ∈ ss, t.v < 18446744073709551616) (hl : ss.length + 16 ≤ 2199023255552) (hkl : keep.length ≤ 17592186044416) (hkb : ∀ k ∈ keep, k ≤ 9223372036854775807) (hcase : (lowB keep = true ∧ ak = none ∧ ck = 0 ∧ kp = []) ∨ (lowB keep = false ∧ ak = a2 ∧ ck = c2 ∧ kp = keep)) (hrk : Rs F ak (ints kp)) (hkl2 : kp.length ≤ 17592186044416) (hkb2 : ∀ k ∈ kp, k ≤ 9223372036854775807) (hlowk : lowB kp = false) :
    Fn Try.prog 8 #[.agg [.int .i64 lines, .slice a ss.length c, .int .i64 after0, .slice a2 keep.length c2].toArray] (F) (fun r B => r = .bool true ∧ B = F) := by
  have hE := @fn_enterW Try.prog 8 Try.f8 _ [.agg [.int .i64 lines, .slice a ss.length c, .int .i64 after0, .slice a2 keep.length c2].toArray] (F) (fun r B => r = .bool true ∧ B = F) _ Try.func8 rfl Try.ntmps8 (by simp)
  refine hE ?_
  clear hE
  have hwi := wi_lt (p := lines) (show 0 < 4 by omega)
  have hn0 : 0 < n := by omega
  have hn4 : n ≤ 4 := by omega
  have hscl := scs_length ss
  have haft : 1 ≤ 1 + after0 % 40 ∧ 1 + after0 % 40 ≤ 40 := by omega
  refine tc_seq ?_
  refine tc_reg ?_
  refine tl_x rfl (o_box rfl rfl) ?_
  rintro _ _ ⟨b1, rfl, rfl⟩
  refine tl_v rfl (o_assign (by conv => lhs; whnf)) ?_
  refine tl_nil ?_
  refine q_then_n ?_
  refine tc_seq ?_
  refine tc_seq ?_
  refine tc_reg ?_
  refine tl_c rfl (o_call bd25 rfl (awake_c)) ?_
  rintro _ _ ⟨rfl, rfl⟩
  refine tl_v rfl (o_not rfl) ?_
  refine tl_nil ?_
  refine q_then_n ?_
  refine tc_cond rfl (fun h => ?_) (fun h => ?_)
  · (exfalso; first | (revert h; simp; done) | (revert h; simp; omega) | (simp at h; omega) | omega)
  · try simp only [decide_eq_true_eq, decide_eq_false_iff_not, Bool.not_eq_true', Bool.not_eq_false', Option.isNone_some, Option.isNone_none, Bool.not_true, Bool.not_false] at h
    refine tc_skip ?_
    refine q_then_n ?_
    refine tc_seq ?_
    refine tc_regq mo (by kernel_rfl) ?_
    refine ql_v rfl (o_fieldAddr (o := 1) Try.underlying69 rfl rfl sz36 rfl) ?_
    refine ql_v rfl (by first | exact o_load p36 rfl (by repeat (first | with_reducible exact has_here | with_reducible exact has_pt | apply has_left)) rfl | exact o_loadC p36 rfl (by assumption)) ?_
    refine ql_v rfl (o_fieldAddr (o := 3) Try.underlying69 rfl rfl sz37 rfl) ?_
    refine ql_v rfl (by first | exact o_load p37 rfl (by repeat (first | with_reducible exact has_here | with_reducible exact has_pt | apply has_left)) rfl | exact o_loadC p37 rfl (by assumption)) ?_
    refine ql_v rfl (o_assign (by conv => lhs; whnf)) ?_
    refine ql_v rfl (o_assign (by conv => lhs; whnf)) ?_
    refine ql_nil ?_
    refine q_then_n ?_
    refine tc_seq ?_
    refine tc_seq ?_
    refine tc_reg ?_
    refine tl_v rfl (o_move (by conv => lhs; whnf)) ?_
    refine tl_c rfl (o_call bd30 rfl (good_c (xs := keep))) ?_
    rintro _ _ ⟨rfl, rfl⟩
    refine tl_v rfl (o_not rfl) ?_
    refine tl_nil ?_
    refine q_then_n ?_
    refine tc_cut (fun ρ BB => ρ 4 = .slice ak kp.length ck ∧ ρ 1 = .pointer (some ⟨b1, 0, none⟩) ∧ ρ 3 = .slice a ss.length c ∧ BB = F * pt b1 (cl [.int .i64 lines, .slice a ss.length c, .int .i64 after0, .slice a2 keep.length c2] 69)) ?_ ?_
    · skip
      refine tc_cond rfl (fun h => ?_) (fun h => ?_)
      · rcases hcase with ⟨_, rfl, rfl, rfl⟩ | ⟨h1, _⟩
        rotate_left
        · rw [h1] at h; simp at h
        refine tc_reg ?_
        refine tl_v rfl (o_assign (by conv => lhs; whnf)) ?_
        refine tl_nil ?_
        exact ⟨rfl, rfl, rfl, rfl⟩
      · rcases hcase with ⟨h1, _⟩ | ⟨_, rfl, rfl, rfl⟩
        · rw [h1] at h; simp at h
        refine tc_skip ?_
        exact ⟨rfl, rfl, rfl, rfl⟩
    · intro ρ B hI
      obtain ⟨hE4, hE1, hE3, rfl⟩ := hI
      refine q_then_n ?_
      refine tc_env (d := 4) hE4 ?_
      refine tc_env (d := 1) hE1 ?_
      refine tc_env (d := 3) hE3 ?_
      clear hE4 hE1 hE3
      refine tc_seq ?_
      refine tc_reg ?_
      refine tl_v rfl (o_fieldAddr (o := 2) Try.underlying69 rfl rfl sz3 rfl) ?_
      refine tl_v rfl (by first | exact o_load p3 rfl (by repeat (first | with_reducible exact has_here | with_reducible exact has_pt | apply has_left)) rfl | exact o_loadC p3 rfl (by assumption)) ?_
      refine tl_c rfl (o_call bd37 rfl (within_c)) ?_
      rintro _ _ ⟨rfl, rfl⟩
      refine tl_v rfl (by first | exact o_addI rfl rfl (by omega) | exact o_add rfl rfl) ?_
      refine tl_v rfl (o_assign (by conv => lhs; whnf)) ?_
      refine tl_nil ?_
      refine q_then_n ?_
      refine tc_seq ?_
      refine tc_reg ?_
      refine tl_v rfl (o_fieldAddr (o := 0) Try.underlying69 rfl rfl sz3 rfl) ?_
      refine tl_v rfl (by first | exact o_load p3 rfl (by repeat (first | with_reducible exact has_here | with_reducible exact has_pt | apply has_left)) rfl | exact o_loadC p3 rfl (by assumption)) ?_
      refine tl_c rfl (o_call bd26 rfl (begun_c (n := n) (ss := []) (hss := by simp))) ?_
      rintro _ _ ⟨p28, d28, sv28, hv28, lv28, uv28, mv28, hvs28, rfl, rfl⟩
      refine tl_v rfl (o_move (by conv => lhs; whnf)) ?_
      refine tl_v rfl (o_extract rfl rfl) ?_
      refine tl_v rfl (o_extract rfl rfl) ?_
      refine tl_v rfl (o_assign (by conv => lhs; whnf)) ?_
      refine tl_v rfl (o_assign (by conv => lhs; whnf)) ?_
      refine tl_nil ?_
      refine q_then_n ?_
      refine tc_seq ?_
      refine tc_reg ?_
      refine tl_v rfl (o_fieldAddr (o := 0) Try.underlying69 rfl rfl sz3 rfl) ?_
      refine tl_v rfl (by first | exact o_load p3 rfl (by repeat (first | with_reducible exact has_here | with_reducible exact has_pt | apply has_left)) rfl | exact o_loadC p3 rfl (by assumption)) ?_
      refine tl_c rfl (o_call bd26 rfl (begun_c (n := n) (ss := []) (hss := by simp))) ?_
      rintro _ _ ⟨p34, d34, sv34, hv34, lv34, uv34, mv34, hvs34, rfl, rfl⟩
      refine tl_v rfl (o_move (by conv => lhs; whnf)) ?_
      refine tl_v rfl (o_extract rfl rfl) ?_
      refine tl_v rfl (o_extract rfl rfl) ?_
      refine tl_v rfl (o_assign (by conv => lhs; whnf)) ?_
      refine tl_v rfl (o_assign (by conv => lhs; whnf)) ?_
      refine tl_nil ?_
      refine q_then_n ?_
      refine tc_seq ?_
      refine tc_seq ?_
      refine tc_regh (S := F * pt b1 (cl [.int .i64 lines, .slice a ss.length c, .int .i64 after0, .slice a2 keep.length c2] 69) * PlD p28 d28 sv28 hv28 lv28 uv28 mv28 hvs28 (playL [] (begS n)) * PlD p34 d34 sv34 hv34 lv34 uv34 mv34 hvs34 (playL [] (begS n)) * Dev d34 (playL [] (begS n)).s) mo (by repeat (first | with_reducible exact dr_refl | apply dr_keep | apply dr_drop)) ?_
      show TH _ _ _ _ _ 19 #[false, false, false, false, false, false, false, false, false, false, false, false, false, false, false, false, false, false, false] _ _
      refine th_take (i := 0) (listed' := #[true, false, false, false, false, false, false, false, false, false, false, false, false, false, false, false, false, false, false]) rfl (by kernel_rfl) (by kernel_rfl) (by kernel_rfl) rfl rfl (o_move (by conv => lhs; whnf)) ?_
      refine th_take (i := 1) (listed' := #[true, true, false, false, false, false, false, false, false, false, false, false, false, false, false, false, false, false, false]) rfl (by kernel_rfl) (by kernel_rfl) (by kernel_rfl) rfl rfl (o_not rfl) ?_
      refine th_take (i := 2) (listed' := #[true, true, true, false, false, false, false, false, false, false, false, false, false, false, false, false, false, false, false]) rfl (by kernel_rfl) (by kernel_rfl) (by kernel_rfl) rfl rfl (o_move (by conv => lhs; whnf)) ?_
      refine th_bool (d := 39) rfl (fun h => ?_) (fun h => ?_)
      · (exfalso; first | (revert h; simp; done) | (revert h; simp; omega) | (simp at h; omega) | omega)
      · try simp only [decide_eq_true_eq, decide_eq_false_iff_not, Bool.not_eq_true', Bool.not_eq_false', Option.isNone_some, Option.isNone_none, Bool.not_true, Bool.not_false] at h
        refine th_take (i := 3) (listed' := #[true, true, true, true, false, false, false, false, false, false, false, false, false, false, false, false, false, false, false]) rfl (by kernel_rfl) (by kernel_rfl) (by kernel_rfl) rfl rfl (o_move (by conv => lhs; whnf)) ?_
        refine th_take (i := 4) (listed' := #[true, true, true, true, true, false, false, false, false, false, false, false, false, false, false, false, false, false, false]) rfl (by kernel_rfl) (by kernel_rfl) (by kernel_rfl) rfl rfl (o_not rfl) ?_
        refine th_take (i := 5) (listed' := #[true, true, true, true, true, true, false, false, false, false, false, false, false, false, false, false, false, false, false]) rfl (by kernel_rfl) (by kernel_rfl) (by kernel_rfl) rfl rfl (o_pick_f rfl (by conv => lhs; whnf)) ?_
        refine th_take (i := 6) (listed' := #[true, true, true, true, true, true, true, false, false, false, false, false, false, false, false, false, false, false, false]) rfl (by kernel_rfl) (by kernel_rfl) (by kernel_rfl) rfl rfl (o_move (by conv => lhs; whnf)) ?_
        refine th_bool (d := 43) rfl (fun h => ?_) (fun h => ?_)
        · (exfalso; first | (revert h; simp; done) | (revert h; simp; omega) | (simp at h; omega) | omega)
        · try simp only [decide_eq_true_eq, decide_eq_false_iff_not, Bool.not_eq_true', Bool.not_eq_false', Option.isNone_some, Option.isNone_none, Bool.not_true, Bool.not_false] at h
          refine th_take (i := 7) (listed' := #[true, true, true, true, true, true, true, true, false, false, false, false, false, false, false, false, false, false, false]) rfl (by kernel_rfl) (by kernel_rfl) (by kernel_rfl) rfl rfl (o_move (by conv => lhs; whnf)) ?_
          refine th_take (i := 8) (listed' := #[true, true, true, true, true, true, true, true, true, false, false, false, false, false, false, false, false, false, false]) rfl (by kernel_rfl) (by kernel_rfl) (by kernel_rfl) rfl rfl (o_nilCheck rfl) ?_
          refine th_take (i := 9) (listed' := #[true, true, true, true, true, true, true, true, true, true, false, false, false, false, false, false, false, false, false]) rfl (by kernel_rfl) (by kernel_rfl) (by kernel_rfl) rfl rfl (o_fieldAddr (o := 0) Try.underlying46 rfl rfl sz41 rfl) ?_
          refine th_take (i := 10) (listed' := #[true, true, true, true, true, true, true, true, true, true, true, false, false, false, false, false, false, false, false]) rfl (by kernel_rfl) (by kernel_rfl) (by kernel_rfl) rfl rfl (o_load p41 rfl (by repeat (first | with_reducible exact plD_p | apply has_left)) rfl) ?_
          refine th_take (i := 11) (listed' := #[true, true, true, true, true, true, true, true, true, true, true, true, false, false, false, false, false, false, false]) rfl (by kernel_rfl) (by kernel_rfl) (by kernel_rfl) rfl rfl (o_move (by conv => lhs; whnf)) ?_
          refine th_take (i := 12) (listed' := #[true, true, true, true, true, true, true, true, true, true, true, true, true, false, false, false, false, false, false]) rfl (by kernel_rfl) (by kernel_rfl) (by kernel_rfl) rfl rfl (o_move (by conv => lhs; whnf)) ?_
          refine th_one (i := 13) (by kernel_rfl) ?_
          refine oh_c (i := 13) (listed' := #[true, true, true, true, true, true, true, true, true, true, true, true, true, true, false, false, false, false, false]) rfl rfl rfl (o_call bd29 rfl (CopyInts_c (xs := kp))) ?_
          rintro _ _ ⟨a50, c50, rfl, hc50, rfl⟩
          refine ⟨by repeat (first | with_reducible exact dr_refl | apply dr_keep | apply dr_drop), ?_⟩
          refine th_take (i := 14) (listed' := #[true, true, true, true, true, true, true, true, true, true, true, true, true, true, true, false, false, false, false]) rfl (by kernel_rfl) (by kernel_rfl) (by kernel_rfl) rfl rfl (o_bS (l := [_, _]) (pv_cons (by conv => lhs; whnf) (pv_cons (by conv => lhs; whnf) pv_nil)) Try.underlying72 z72 (pl72 Try.underlying72) rfl) ?_
          refine th_one (i := 15) (by kernel_rfl) ?_
          refine oh_x (i := 15) (listed' := #[true, true, true, true, true, true, true, true, true, true, true, true, true, true, true, true, false, false, false]) rfl rfl rfl (o_buildSliceK Try.underlying74 sz72 z72 rfl (by first | rfl | simp) (by decide)) ?_
          rintro _ _ ⟨b52, rfl, rfl⟩
          refine ⟨by repeat (first | with_reducible exact dr_refl | apply dr_keep | apply dr_drop), ?_⟩
          refine th_one (i := 16) (by kernel_rfl) ?_
          refine oh_c (i := 16) (listed' := #[true, true, true, true, true, true, true, true, true, true, true, true, true, true, true, true, true, false, false]) rfl rfl rfl (o_call bd44 rfl (Arm_c (kvs := [.slice a50 kp.length c50]) (ars := [(1 + after0 % 40, kp)]) (hm := rfl) (hr := ⟨by repeat (first | assumption | exact rs_sl | exact rs_pt0 | exact rs_none | apply Rs.left), rfl, fun i h => by have h0 : i = 0 := (by simpa using h); subst h0; exact ⟨_, _, rfl, hc50, by repeat (first | assumption | exact rs_sl | exact rs_pt0 | exact rs_none | apply Rs.left)⟩⟩) (hk := fun x hx => by simp only [List.mem_singleton] at hx; subst hx; exact ⟨by constructor <;> (show _ ≤ _) <;> omega, hkl2, hkb2⟩))) ?_
          rintro _ _ ⟨e53, s53, hs53, rfl, rfl⟩
          refine ⟨by repeat (first | with_reducible exact dr_refl | apply dr_keep | apply dr_drop), ?_⟩
          obtain ⟨rfl, rfl⟩ : 0 = e53 ∧ (armP (1 + after0 % 40) kp (begS n)).s = s53 := by
            have : armS [(1 + after0 % 40, kp)] (begS n).s = (0, (armP (1 + after0 % 40) kp (begS n)).s) := by
              unfold armS
              rw [if_neg (by show ¬ false = true; decide), if_neg (by simp only [List.any_cons, List.any_nil, badA, hlowk, Bool.or_false]; simp; omega), if_neg (by show ¬ 64 < 1 + 0; decide)]
              unfold armP; rfl
            have h2 := this.symm.trans hs53
            simpa using h2
          refine th_take (i := 17) (listed' := #[true, true, true, true, true, true, true, true, true, true, true, true, true, true, true, true, true, true, false]) rfl (by kernel_rfl) (by kernel_rfl) (by kernel_rfl) rfl rfl (o_nei rfl rfl) ?_
          refine th_take (i := 18) (listed' := #[true, true, true, true, true, true, true, true, true, true, true, true, true, true, true, true, true, true, true]) rfl (by kernel_rfl) (by kernel_rfl) (by kernel_rfl) rfl rfl (o_pick_f rfl (by conv => lhs; whnf)) ?_
          refine th_done (by kernel_rfl) ?_
          refine q_then_n ?_
          refine tc_cond rfl (fun h => ?_) (fun h => ?_)
          · exfalso; simp at h
          · try simp only [decide_eq_true_eq, decide_eq_false_iff_not, Bool.not_eq_true', Bool.not_eq_false', Option.isNone_some, Option.isNone_none, Bool.not_true, Bool.not_false] at h
            refine tc_skip ?_
            refine q_then_n ?_
            refine tc_seq ?_
            refine tc_seq ?_
            refine tc_reg ?_
            refine tl_v rfl (o_assign (by conv => lhs; whnf)) ?_
            refine tl_nil ?_
            refine q_then_n ?_
            refine tc_block ?_
            refine tc_pre (Dr.sat (A' := F * pt b1 (cl [.int .i64 lines, .slice a ss.length c, .int .i64 after0, .slice a2 keep.length c2] 69) * PlD p28 d28 sv28 hv28 lv28 uv28 mv28 hvs28 (begS n) * Dev d28 (armP (1 + after0 % 40) kp (begS n)).s * PlD p34 d34 sv34 hv34 lv34 uv34 mv34 hvs34 (begS n) * Dev d34 (begS n).s) (by repeat (first | with_reducible exact dr_refl | apply dr_keep | apply dr_drop))) ?_
            rw [← plD_arm (p := p28) (after := 1 + after0 % 40) (keep := kp)]
            refine tc_loop (fun kk ρ BB => ∃ (i : Nat) (Q : PlS) (hvp : List Value) (hvq : List Value), (i ≤ ss.length) ∧ (WfP (1 + (ss.length - i)) Q) ∧ (Live Q.s) ∧ (0 ≤ Q.s.ops) ∧ (Q.s.ops < 1 + after0 % 40) ∧ kk = ss.length - i ∧ ρ 10 = .int .i64 (i : Nat) ∧ ρ 3 = .slice a ss.length c ∧ ρ 4 = .slice ak kp.length ck ∧ ρ 5 = .int .i64 (1 + after0 % 40) ∧ ρ 6 = .pointer (some ⟨p28, 0, none⟩) ∧ ρ 8 = .pointer (some ⟨p34, 0, none⟩) ∧ BB = F * pt b1 (cl [.int .i64 lines, .slice a ss.length c, .int .i64 after0, .slice a2 keep.length c2] 69) * PlD p28 d28 sv28 hv28 lv28 uv28 mv28 hvp (armP (1 + after0 % 40) kp Q) * Dev d28 (armP (1 + after0 % 40) kp Q).s * PlD p34 d34 sv34 hv34 lv34 uv34 mv34 hvq Q * Dev d34 Q.s) (m := ss.length - (0)) ?_ ?_
            · exact ⟨0, begS n, hvs28, hvs34, by omega, begS_wf hn0 hn4 (by omega), begS_live n, by show (0 : Int) ≤ 0; omega, by show (0 : Int) < _; omega, rfl, rfl, rfl, rfl, rfl, rfl, rfl, rfl⟩
            · intro k ρ B hI
              obtain ⟨i, Q, hvp, hvq, hp0, hp1, hp2, hp3, hp4, hkk1, hE10, hE3, hE4, hE5, hE6, hE8, rfl⟩ := hI
              refine tc_env (d := 10) hE10 ?_
              refine tc_env (d := 3) hE3 ?_
              refine tc_env (d := 4) hE4 ?_
              refine tc_env (d := 5) hE5 ?_
              refine tc_env (d := 6) hE6 ?_
              refine tc_env (d := 8) hE8 ?_
              clear hE10 hE3 hE4 hE5 hE6 hE8
              refine tc_seq ?_
              refine tc_seq ?_
              refine tc_reg ?_
              refine tl_v rfl (o_move (by conv => lhs; whnf)) ?_
              refine tl_v rfl (o_move (by conv => lhs; whnf)) ?_
              refine tl_v rfl (o_len Try.underlying36 rfl) ?_
              refine tl_v rfl (o_lss rfl rfl) ?_
              refine tl_nil ?_
              refine q_then_n ?_
              refine tc_cond rfl (fun h => ?_) (fun h => ?_)
              · have hi : i < ss.length := by simp at h; omega
                have hse := scs_at hi
                have hv64 := hss _ (List.getElem_mem hi)
                have hQ1 : WfP ((ss.length - i) + 1) Q := hp1.mono (by omega)
                have hQ0 : WfP 1 Q := hp1.mono (by omega)
                have hP0 := armP_wf hQ0 (1 + after0 % 40) kp
                have key := arm_step hQ1 hp2 kp ⟨hp3, hp4, haft.2⟩ ss[i].k ss[i].q ss[i].v
                obtain ⟨hok, hQn, hLn⟩ := step_ok hQ1 hp2 ss[i].k ss[i].q ss[i].v
                refine tc_skip ?_
                refine q_then_n ?_
                refine tc_seq ?_
                refine tc_block ?_
                refine tc_seq ?_
                refine tc_reg ?_
                refine tl_v rfl (o_move (by conv => lhs; whnf)) ?_
                refine tl_v rfl (o_move (by conv => lhs; whnf)) ?_
                refine tl_v rfl (o_move (by conv => lhs; whnf)) ?_
                refine tl_v rfl (o_ixP Try.underlying36 sz76 rfl rfl (by first | omega | (simp only [bys_length, ints_length, wds_length, bos_length, List.length_append, List.length_take, List.length_drop, List.length_singleton]; omega)) (by repeat (first | exact nn_some | with_reducible exact nn_sl (by decide) | exact nn_rs (by assumption) (fun _ => by first | omega | (simp only [bys_length, ints_length, wds_length, bos_length, List.length_append, List.length_take, List.length_drop, List.length_singleton]; omega)) | apply Nn.left))) ?_
                refine tl_v rfl (o_ldPN (vs := ss[i].cells) a76 sz76 rfl (by repeat (first | assumption | with_reducible exact rs_sl | with_reducible exact rs_pt0 | exact rs_none | apply Rs.left)) hse rfl (by decide)) ?_
                refine tl_c rfl (o_call bd45 rfl (play_c (P := (armP (1 + after0 % 40) kp Q)) (hs := rfl))) ?_
                rintro _ _ ⟨hvs67, y67, P67, hy67, rfl, rfl⟩
                rw [hy67] at key
                refine tl_v rfl (o_assign (by conv => lhs; whnf)) ?_
                refine tl_nil ?_
                refine q_then_n ?_
                refine tc_seq ?_
                refine tc_seq ?_
                refine tc_regh (S := F * pt b1 (cl [.int .i64 lines, .slice a ss.length c, .int .i64 after0, .slice a2 keep.length c2] 69) * PlD p28 d28 sv28 hv28 lv28 uv28 mv28 hvs67 P67 * Dev d28 P67.s) mo (by repeat (first | with_reducible exact dr_refl | apply dr_keep | apply dr_drop)) ?_
                show TH _ _ _ _ _ 20 #[false, false, false, false, false, false, false, false, false, false, false, false, false, false, false, false, false, false, false, false] _ _
                refine th_take (i := 0) (listed' := #[true, false, false, false, false, false, false, false, false, false, false, false, false, false, false, false, false, false, false, false]) rfl (by kernel_rfl) (by kernel_rfl) (by kernel_rfl) rfl rfl (o_move (by conv => lhs; whnf)) ?_
                refine th_take (i := 1) (listed' := #[true, true, false, false, false, false, false, false, false, false, false, false, false, false, false, false, false, false, false, false]) rfl (by kernel_rfl) (by kernel_rfl) (by kernel_rfl) rfl rfl (o_move (by conv => lhs; whnf)) ?_
                refine th_take (i := 2) (listed' := #[true, true, true, false, false, false, false, false, false, false, false, false, false, false, false, false, false, false, false, false]) rfl (by kernel_rfl) (by kernel_rfl) (by kernel_rfl) rfl rfl (o_move (by conv => lhs; whnf)) ?_
                refine th_take (i := 3) (listed' := #[true, true, true, true, false, false, false, false, false, false, false, false, false, false, false, false, false, false, false, false]) rfl (by kernel_rfl) (by kernel_rfl) (by kernel_rfl) rfl rfl (o_ixP Try.underlying36 sz76 rfl rfl (by first | omega | (simp only [bys_length, ints_length, wds_length, bos_length, List.length_append, List.length_take, List.length_drop, List.length_singleton]; omega)) (by repeat (first | exact nn_some | with_reducible exact nn_sl (by decide) | exact nn_rs (by assumption) (fun _ => by first | omega | (simp only [bys_length, ints_length, wds_length, bos_length, List.length_append, List.length_take, List.length_drop, List.length_singleton]; omega)) | apply Nn.left))) ?_
                refine th_take (i := 4) (listed' := #[true, true, true, true, true, false, false, false, false, false, false, false, false, false, false, false, false, false, false, false]) rfl (by kernel_rfl) (by kernel_rfl) (by kernel_rfl) rfl rfl (o_ldPN (vs := ss[i].cells) a76 sz76 rfl (by repeat (first | assumption | with_reducible exact rs_sl | with_reducible exact rs_pt0 | exact rs_none | apply Rs.left)) hse rfl (by decide)) ?_
                refine th_one (i := 5) (by kernel_rfl) ?_
                refine oh_c (i := 5) (listed' := #[true, true, true, true, true, true, false, false, false, false, false, false, false, false, false, false, false, false, false, false]) rfl rfl rfl (o_call bd45 rfl (play_c (P := Q) (hs := rfl))) ?_
                rintro _ _ ⟨hvs73, y73, P73, hy73, rfl, rfl⟩
                refine ⟨by repeat (first | with_reducible exact dr_refl | apply dr_keep | apply dr_drop), ?_⟩
                rw [hy73] at key hok hQn hLn
                have hops := key.ops
                refine th_take (i := 6) (listed' := #[true, true, true, true, true, true, true, false, false, false, false, false, false, false, false, false, false, false, false, false]) rfl (by kernel_rfl) (by kernel_rfl) (by kernel_rfl) rfl rfl (o_not rfl) ?_
                refine th_take (i := 7) (listed' := #[true, true, true, true, true, true, true, true, false, false, false, false, false, false, false, false, false, false, false, false]) rfl (by kernel_rfl) (by kernel_rfl) (by kernel_rfl) rfl rfl (o_move (by conv => lhs; whnf)) ?_
                refine th_bool (d := 75) rfl (fun h => ?_) (fun h => ?_)
                · exfalso; simp at hok; simp [hok] at h
                · try simp only [decide_eq_true_eq, decide_eq_false_iff_not, Bool.not_eq_true', Bool.not_eq_false', Option.isNone_some, Option.isNone_none, Bool.not_true, Bool.not_false] at h
                  refine th_take (i := 8) (listed' := #[true, true, true, true, true, true, true, true, true, false, false, false, false, false, false, false, false, false, false, false]) rfl (by kernel_rfl) (by kernel_rfl) (by kernel_rfl) rfl rfl (o_move (by conv => lhs; whnf)) ?_
                  refine th_take (i := 9) (listed' := #[true, true, true, true, true, true, true, true, true, true, false, false, false, false, false, false, false, false, false, false]) rfl (by kernel_rfl) (by kernel_rfl) (by kernel_rfl) rfl rfl (o_nilCheck rfl) ?_
                  refine th_take (i := 10) (listed' := #[true, true, true, true, true, true, true, true, true, true, true, false, false, false, false, false, false, false, false, false]) rfl (by kernel_rfl) (by kernel_rfl) (by kernel_rfl) rfl rfl (o_fieldAddr (o := 0) Try.underlying46 rfl rfl sz41 rfl) ?_
                  refine th_take (i := 11) (listed' := #[true, true, true, true, true, true, true, true, true, true, true, true, false, false, false, false, false, false, false, false]) rfl (by kernel_rfl) (by kernel_rfl) (by kernel_rfl) rfl rfl (o_load p41 rfl (by repeat (first | with_reducible exact plD_p | apply has_left)) rfl) ?_
                  refine th_take (i := 13) (listed' := #[true, true, true, true, true, true, true, true, true, true, true, true, false, true, false, false, false, false, false, false]) rfl (by kernel_rfl) (by kernel_rfl) (by kernel_rfl) rfl rfl (o_move (by conv => lhs; whnf)) ?_
                  refine th_take (i := 14) (listed' := #[true, true, true, true, true, true, true, true, true, true, true, true, false, true, true, false, false, false, false, false]) rfl (by kernel_rfl) (by kernel_rfl) (by kernel_rfl) rfl rfl (o_nilCheck rfl) ?_
                  refine th_take (i := 15) (listed' := #[true, true, true, true, true, true, true, true, true, true, true, true, false, true, true, true, false, false, false, false]) rfl (by kernel_rfl) (by kernel_rfl) (by kernel_rfl) rfl rfl (o_fieldAddr (o := 0) Try.underlying46 rfl rfl sz41 rfl) ?_
                  refine th_two (i := 12) (j := 16) (by kernel_rfl) ?_ ?_
                  · skip
                    refine oh_c (i := 12) (listed' := #[true, true, true, true, true, true, true, true, true, true, true, true, true, true, true, true, false, false, false, false]) rfl rfl rfl (o_call bd41 rfl (Ops_c)) ?_
                    rintro _ _ ⟨rfl, rfl⟩
                    refine ⟨by repeat (first | with_reducible exact dr_refl | apply dr_keep | apply dr_drop), ?_⟩
                    refine th_one (i := 16) (by kernel_rfl) ?_
                    refine oh_v (i := 16) (listed' := #[true, true, true, true, true, true, true, true, true, true, true, true, true, true, true, true, true, false, false, false]) rfl rfl rfl (o_load p41 rfl (by repeat (first | with_reducible exact plD_p | apply has_left)) rfl) ?_
                    refine th_one (i := 17) (by kernel_rfl) ?_
                    refine oh_c (i := 17) (listed' := #[true, true, true, true, true, true, true, true, true, true, true, true, true, true, true, true, true, true, false, false]) rfl rfl rfl (o_call bd41 rfl (Ops_c)) ?_
                    rintro _ _ ⟨rfl, rfl⟩
                    refine ⟨by repeat (first | with_reducible exact dr_refl | apply dr_keep | apply dr_drop), ?_⟩
                    refine th_take (i := 18) (listed' := #[true, true, true, true, true, true, true, true, true, true, true, true, true, true, true, true, true, true, true, false]) rfl (by kernel_rfl) (by kernel_rfl) (by kernel_rfl) rfl rfl (o_nei rfl rfl) ?_
                    refine th_take (i := 19) (listed' := #[true, true, true, true, true, true, true, true, true, true, true, true, true, true, true, true, true, true, true, true]) rfl (by kernel_rfl) (by kernel_rfl) (by kernel_rfl) rfl rfl (o_pick_f rfl (by conv => lhs; whnf)) ?_
                    refine th_done (by kernel_rfl) ?_
                    refine q_then_n ?_
                    refine tc_cond rfl (fun h => ?_) (fun h => ?_)
                    · exfalso; simp at hops; simp [hops] at h
                    · try simp only [decide_eq_true_eq, decide_eq_false_iff_not, Bool.not_eq_true', Bool.not_eq_false', Option.isNone_some, Option.isNone_none, Bool.not_true, Bool.not_false] at h
                      refine tc_skip ?_
                      refine q_then_n ?_
                      refine tc_seq ?_
                      refine tc_seq ?_
                      refine tc_reg ?_
                      refine tl_v rfl (o_move (by conv => lhs; whnf)) ?_
                      refine tl_v rfl (o_nilCheck rfl) ?_
                      refine tl_v rfl (o_fieldAddr (o := 0) Try.underlying46 rfl rfl sz41 rfl) ?_
                      refine tl_v rfl (o_load p41 rfl (by repeat (first | with_reducible exact plD_p | apply has_left)) rfl) ?_
                      refine tl_c rfl (o_call bd41 rfl (Ops_c)) ?_
                      rintro _ _ ⟨rfl, rfl⟩
                      refine tl_v rfl (o_move (by conv => lhs; whnf)) ?_
                      refine tl_v rfl (o_eqi rfl rfl) ?_
                      refine tl_nil ?_
                      refine q_then_n ?_
                      refine tc_cond rfl (fun h => ?_) (fun h => ?_)
                      · have hg := key.gone (by simpa using h)
                        simp only at hg
                        obtain ⟨hg1, hg2, hg3, hg4⟩ := hg
                        have hrm := room_goes (k := 1) hg4 (by omega)
                        have hoffq := hLn.off
                        simp only at hoffq
                        refine tc_seq ?_
                        refine tc_seq ?_
                        refine tc_regh (S := F * pt b1 (cl [.int .i64 lines, .slice a ss.length c, .int .i64 after0, .slice a2 keep.length c2] 69) * PlD p28 d28 sv28 hv28 lv28 uv28 mv28 hvs67 P67 * Dev d28 P67.s * PlD p34 d34 sv34 hv34 lv34 uv34 mv34 hvs73 P73) mo (by repeat (first | with_reducible exact dr_refl | apply dr_keep | apply dr_drop)) ?_
                        show TH _ _ _ _ _ 33 #[false, false, false, false, false, false, false, false, false, false, false, false, false, false, false, false, false, false, false, false, false, false, false, false, false, false, false, false, false, false, false, false, false] _ _
                        refine th_take (i := 0) (listed' := #[true, false, false, false, false, false, false, false, false, false, false, false, false, false, false, false, false, false, false, false, false, false, false, false, false, false, false, false, false, false, false, false, false]) rfl (by kernel_rfl) (by kernel_rfl) (by kernel_rfl) rfl rfl (o_move (by conv => lhs; whnf)) ?_
                        refine th_take (i := 1) (listed' := #[true, true, false, false, false, false, false, false, false, false, false, false, false, false, false, false, false, false, false, false, false, false, false, false, false, false, false, false, false, false, false, false, false]) rfl (by kernel_rfl) (by kernel_rfl) (by kernel_rfl) rfl rfl (o_move (by conv => lhs; whnf)) ?_
                        refine th_bool (d := 96) rfl (fun h => ?_) (fun h => ?_)
                        · exfalso; simp [hg1] at h
                        · try simp only [decide_eq_true_eq, decide_eq_false_iff_not, Bool.not_eq_true', Bool.not_eq_false', Option.isNone_some, Option.isNone_none, Bool.not_true, Bool.not_false] at h
                          refine th_take (i := 2) (listed' := #[true, true, true, false, false, false, false, false, false, false, false, false, false, false, false, false, false, false, false, false, false, false, false, false, false, false, false, false, false, false, false, false, false]) rfl (by kernel_rfl) (by kernel_rfl) (by kernel_rfl) rfl rfl (o_move (by conv => lhs; whnf)) ?_
                          refine th_take (i := 3) (listed' := #[true, true, true, true, false, false, false, false, false, false, false, false, false, false, false, false, false, false, false, false, false, false, false, false, false, false, false, false, false, false, false, false, false]) rfl (by kernel_rfl) (by kernel_rfl) (by kernel_rfl) rfl rfl (o_nilCheck rfl) ?_
                          refine th_take (i := 4) (listed' := #[true, true, true, true, true, false, false, false, false, false, false, false, false, false, false, false, false, false, false, false, false, false, false, false, false, false, false, false, false, false, false, false, false]) rfl (by kernel_rfl) (by kernel_rfl) (by kernel_rfl) rfl rfl (o_fieldAddr (o := 0) Try.underlying46 rfl rfl sz41 rfl) ?_
                          refine th_take (i := 5) (listed' := #[true, true, true, true, true, true, false, false, false, false, false, false, false, false, false, false, false, false, false, false, false, false, false, false, false, false, false, false, false, false, false, false, false]) rfl (by kernel_rfl) (by kernel_rfl) (by kernel_rfl) rfl rfl (o_load p41 rfl (by repeat (first | with_reducible exact plD_p | apply has_left)) rfl) ?_
                          refine th_one (i := 6) (by kernel_rfl) ?_
                          refine oh_c (i := 6) (listed' := #[true, true, true, true, true, true, true, false, false, false, false, false, false, false, false, false, false, false, false, false, false, false, false, false, false, false, false, false, false, false, false, false, false]) rfl rfl rfl (o_call bd46 rfl (off_c)) ?_
                          rintro _ _ ⟨rfl, rfl⟩
                          refine ⟨by repeat (first | with_reducible exact dr_refl | apply dr_keep | apply dr_drop), ?_⟩
                          refine th_take (i := 7) (listed' := #[true, true, true, true, true, true, true, true, false, false, false, false, false, false, false, false, false, false, false, false, false, false, false, false, false, false, false, false, false, false, false, false, false]) rfl (by kernel_rfl) (by kernel_rfl) (by kernel_rfl) rfl rfl (o_not rfl) ?_
                          refine th_take (i := 8) (listed' := #[true, true, true, true, true, true, true, true, true, false, false, false, false, false, false, false, false, false, false, false, false, false, false, false, false, false, false, false, false, false, false, false, false]) rfl (by kernel_rfl) (by kernel_rfl) (by kernel_rfl) rfl rfl (o_pick_f rfl (by conv => lhs; whnf)) ?_
                          refine th_take (i := 9) (listed' := #[true, true, true, true, true, true, true, true, true, true, false, false, false, false, false, false, false, false, false, false, false, false, false, false, false, false, false, false, false, false, false, false, false]) rfl (by kernel_rfl) (by kernel_rfl) (by kernel_rfl) rfl rfl (o_move (by conv => lhs; whnf)) ?_
                          refine th_bool (d := 104) rfl (fun h => ?_) (fun h => ?_)
                          · exfalso; simp at h
                          · try simp only [decide_eq_true_eq, decide_eq_false_iff_not, Bool.not_eq_true', Bool.not_eq_false', Option.isNone_some, Option.isNone_none, Bool.not_true, Bool.not_false] at h
                            refine th_take (i := 10) (listed' := #[true, true, true, true, true, true, true, true, true, true, true, false, false, false, false, false, false, false, false, false, false, false, false, false, false, false, false, false, false, false, false, false, false]) rfl (by kernel_rfl) (by kernel_rfl) (by kernel_rfl) rfl rfl (o_move (by conv => lhs; whnf)) ?_
                            refine th_take (i := 11) (listed' := #[true, true, true, true, true, true, true, true, true, true, true, true, false, false, false, false, false, false, false, false, false, false, false, false, false, false, false, false, false, false, false, false, false]) rfl (by kernel_rfl) (by kernel_rfl) (by kernel_rfl) rfl rfl (o_nilCheck rfl) ?_
                            refine th_take (i := 12) (listed' := #[true, true, true, true, true, true, true, true, true, true, true, true, true, false, false, false, false, false, false, false, false, false, false, false, false, false, false, false, false, false, false, false, false]) rfl (by kernel_rfl) (by kernel_rfl) (by kernel_rfl) rfl rfl (o_fieldAddr (o := 0) Try.underlying46 rfl rfl sz41 rfl) ?_
                            refine th_take (i := 13) (listed' := #[true, true, true, true, true, true, true, true, true, true, true, true, true, true, false, false, false, false, false, false, false, false, false, false, false, false, false, false, false, false, false, false, false]) rfl (by kernel_rfl) (by kernel_rfl) (by kernel_rfl) rfl rfl (o_load p41 rfl (by repeat (first | with_reducible exact plD_p | apply has_left)) rfl) ?_
                            refine th_take (i := 14) (listed' := #[true, true, true, true, true, true, true, true, true, true, true, true, true, true, true, false, false, false, false, false, false, false, false, false, false, false, false, false, false, false, false, false, false]) rfl (by kernel_rfl) (by kernel_rfl) (by kernel_rfl) rfl rfl (o_move (by conv => lhs; whnf)) ?_
                            refine th_one (i := 15) (by kernel_rfl) ?_
                            refine oh_c (i := 15) (listed' := #[true, true, true, true, true, true, true, true, true, true, true, true, true, true, true, true, false, false, false, false, false, false, false, false, false, false, false, false, false, false, false, false, false]) rfl rfl rfl (o_call bd29 rfl (CopyInts_c (xs := kp))) ?_
                            rintro _ _ ⟨a110, c110, rfl, hc110, rfl⟩
                            refine ⟨by repeat (first | with_reducible exact dr_refl | apply dr_keep | apply dr_drop), ?_⟩
                            refine th_one (i := 16) (by kernel_rfl) ?_
                            refine oh_c (i := 16) (listed' := #[true, true, true, true, true, true, true, true, true, true, true, true, true, true, true, true, true, false, false, false, false, false, false, false, false, false, false, false, false, false, false, false, false]) rfl rfl rfl (o_call bd28 rfl (Crash_c (keep := kp) (hm := rfl) (hk := hkb2))) ?_
                            rintro _ _ ⟨e111, s111, hs111, rfl, rfl⟩
                            refine ⟨by repeat (first | with_reducible exact dr_refl | apply dr_keep | apply dr_drop), ?_⟩
                            have hcr : crS kp P73.s = (0, goesS kp P73.s) := by unfold crS; rw [if_neg (by rw [hoffq]; decide), if_neg (by rw [hlowk]; decide)]
                            obtain ⟨rfl, rfl⟩ : 0 = e111 ∧ goesS kp P73.s = s111 := by have := hcr.symm.trans hs111; simpa using this
                            refine th_take (i := 17) (listed' := #[true, true, true, true, true, true, true, true, true, true, true, true, true, true, true, true, true, true, false, false, false, false, false, false, false, false, false, false, false, false, false, false, false]) rfl (by kernel_rfl) (by kernel_rfl) (by kernel_rfl) rfl rfl (o_nei rfl rfl) ?_
                            refine th_take (i := 18) (listed' := #[true, true, true, true, true, true, true, true, true, true, true, true, true, true, true, true, true, true, true, false, false, false, false, false, false, false, false, false, false, false, false, false, false]) rfl (by kernel_rfl) (by kernel_rfl) (by kernel_rfl) rfl rfl (o_pick_f rfl (by conv => lhs; whnf)) ?_
                            refine th_take (i := 19) (listed' := #[true, true, true, true, true, true, true, true, true, true, true, true, true, true, true, true, true, true, true, true, false, false, false, false, false, false, false, false, false, false, false, false, false]) rfl (by kernel_rfl) (by kernel_rfl) (by kernel_rfl) rfl rfl (o_move (by conv => lhs; whnf)) ?_
                            refine th_bool (d := 114) rfl (fun h => ?_) (fun h => ?_)
                            · exfalso; simp at h
                            · try simp only [decide_eq_true_eq, decide_eq_false_iff_not, Bool.not_eq_true', Bool.not_eq_false', Option.isNone_some, Option.isNone_none, Bool.not_true, Bool.not_false] at h
                              refine th_take (i := 20) (listed' := #[true, true, true, true, true, true, true, true, true, true, true, true, true, true, true, true, true, true, true, true, true, false, false, false, false, false, false, false, false, false, false, false, false]) rfl (by kernel_rfl) (by kernel_rfl) (by kernel_rfl) rfl rfl (o_move (by conv => lhs; whnf)) ?_
                              refine th_take (i := 21) (listed' := #[true, true, true, true, true, true, true, true, true, true, true, true, true, true, true, true, true, true, true, true, true, true, false, false, false, false, false, false, false, false, false, false, false]) rfl (by kernel_rfl) (by kernel_rfl) (by kernel_rfl) rfl rfl (o_nilCheck rfl) ?_
                              refine th_take (i := 22) (listed' := #[true, true, true, true, true, true, true, true, true, true, true, true, true, true, true, true, true, true, true, true, true, true, true, false, false, false, false, false, false, false, false, false, false]) rfl (by kernel_rfl) (by kernel_rfl) (by kernel_rfl) rfl rfl (o_fieldAddr (o := 0) Try.underlying46 rfl rfl sz41 rfl) ?_
                              refine th_take (i := 23) (listed' := #[true, true, true, true, true, true, true, true, true, true, true, true, true, true, true, true, true, true, true, true, true, true, true, true, false, false, false, false, false, false, false, false, false]) rfl (by kernel_rfl) (by kernel_rfl) (by kernel_rfl) rfl rfl (o_load p41 rfl (by repeat (first | with_reducible exact plD_p | apply has_left)) rfl) ?_
                              refine th_take (i := 25) (listed' := #[true, true, true, true, true, true, true, true, true, true, true, true, true, true, true, true, true, true, true, true, true, true, true, true, false, true, false, false, false, false, false, false, false]) rfl (by kernel_rfl) (by kernel_rfl) (by kernel_rfl) rfl rfl (o_move (by conv => lhs; whnf)) ?_
                              refine th_take (i := 26) (listed' := #[true, true, true, true, true, true, true, true, true, true, true, true, true, true, true, true, true, true, true, true, true, true, true, true, false, true, true, false, false, false, false, false, false]) rfl (by kernel_rfl) (by kernel_rfl) (by kernel_rfl) rfl rfl (o_nilCheck rfl) ?_
                              refine th_take (i := 27) (listed' := #[true, true, true, true, true, true, true, true, true, true, true, true, true, true, true, true, true, true, true, true, true, true, true, true, false, true, true, true, false, false, false, false, false]) rfl (by kernel_rfl) (by kernel_rfl) (by kernel_rfl) rfl rfl (o_fieldAddr (o := 0) Try.underlying46 rfl rfl sz41 rfl) ?_
                              refine th_take (i := 28) (listed' := #[true, true, true, true, true, true, true, true, true, true, true, true, true, true, true, true, true, true, true, true, true, true, true, true, false, true, true, true, true, false, false, false, false]) rfl (by kernel_rfl) (by kernel_rfl) (by kernel_rfl) rfl rfl (o_load p41 rfl (by repeat (first | with_reducible exact plD_p | apply has_left)) rfl) ?_
                              refine th_one (i := 24) (by kernel_rfl) ?_
                              refine oh_c (i := 24) (listed' := #[true, true, true, true, true, true, true, true, true, true, true, true, true, true, true, true, true, true, true, true, true, true, true, true, true, true, true, true, true, false, false, false, false]) rfl rfl rfl (o_call bd33 rfl (Image_c)) ?_
                              rintro _ _ ⟨a119, c119, rfl, hc119, rfl⟩
                              refine ⟨by repeat (first | with_reducible exact dr_refl | apply dr_keep | apply dr_drop), ?_⟩
                              refine th_one (i := 29) (by kernel_rfl) ?_
                              refine oh_c (i := 29) (listed' := #[true, true, true, true, true, true, true, true, true, true, true, true, true, true, true, true, true, true, true, true, true, true, true, true, true, true, true, true, true, true, false, false, false]) rfl rfl rfl (o_call bd33 rfl (Image_c)) ?_
                              rintro _ _ ⟨a124, c124, rfl, hc124, rfl⟩
                              refine ⟨by repeat (first | with_reducible exact dr_refl | apply dr_keep | apply dr_drop), ?_⟩
                              refine th_have (fun _ _ h => ct_wf (d := d28) (s := P67.s) (by repeat (first | with_reducible exact ct_here | apply ct_left)) h) fun hw28 => ?_
                              have hl1 := img_length hw28.line
                              have ht28 := hw28.top
                              have hpl : (goesS kp P73.s).ls.length = P67.s.ls.length := by rw [hg4]
                              have hi2 := img_ls hg4
                              refine th_one (i := 30) (by kernel_rfl) ?_
                              refine oh_c (i := 30) (listed' := #[true, true, true, true, true, true, true, true, true, true, true, true, true, true, true, true, true, true, true, true, true, true, true, true, true, true, true, true, true, true, true, false, false]) rfl rfl rfl (o_call bd22 rfl (EqBytes_c (xs := imgS P67.s) (ys := imgS (goesS kp P73.s)) (hx := hl1) (hy := by rw [← hi2, ← hg4]; exact hl1))) ?_
                              rintro _ _ ⟨rfl, rfl⟩
                              refine ⟨by repeat (first | with_reducible exact dr_refl | apply dr_keep | apply dr_drop), ?_⟩
                              refine th_take (i := 31) (listed' := #[true, true, true, true, true, true, true, true, true, true, true, true, true, true, true, true, true, true, true, true, true, true, true, true, true, true, true, true, true, true, true, true, false]) rfl (by kernel_rfl) (by kernel_rfl) (by kernel_rfl) rfl rfl (o_not rfl) ?_
                              refine th_take (i := 32) (listed' := #[true, true, true, true, true, true, true, true, true, true, true, true, true, true, true, true, true, true, true, true, true, true, true, true, true, true, true, true, true, true, true, true, true]) rfl (by kernel_rfl) (by kernel_rfl) (by kernel_rfl) rfl rfl (o_pick_f rfl (by conv => lhs; whnf)) ?_
                              refine th_done (by kernel_rfl) ?_
                              refine q_then_n ?_
                              refine tc_cond rfl (fun h => ?_) (fun h => ?_)
                              · exfalso; simp [hi2] at h
                              · try simp only [decide_eq_true_eq, decide_eq_false_iff_not, Bool.not_eq_true', Bool.not_eq_false', Option.isNone_some, Option.isNone_none, Bool.not_true, Bool.not_false] at h
                                refine tc_skip ?_
                                refine q_then_n ?_
                                refine tc_seq ?_
                                refine tc_reg ?_
                                refine tl_v rfl (o_move (by conv => lhs; whnf)) ?_
                                refine tl_v rfl (o_nilCheck rfl) ?_
                                refine tl_v rfl (o_fieldAddr (o := 0) Try.underlying46 rfl rfl sz41 rfl) ?_
                                refine tl_v rfl (o_load p41 rfl (by repeat (first | with_reducible exact plD_p | apply has_left)) rfl) ?_
                                refine tl_c rfl (o_call bd32 rfl (Wake_c)) ?_
                                rintro _ _ ⟨rfl, rfl⟩
                                refine tl_v rfl (o_eqi rfl rfl) ?_
                                refine tl_v rfl (o_move (by conv => lhs; whnf)) ?_
                                refine tl_bool (d := 134) rfl (fun h => ?_) (fun h => ?_)
                                · try simp only [decide_eq_true_eq, decide_eq_false_iff_not, Bool.not_eq_true', Bool.not_eq_false', Option.isNone_some, Option.isNone_none, Bool.not_true, Bool.not_false] at h
                                  refine tl_v rfl (o_move (by conv => lhs; whnf)) ?_
                                  refine tl_v rfl (o_nilCheck rfl) ?_
                                  refine tl_v rfl (o_fieldAddr (o := 0) Try.underlying46 rfl rfl sz41 rfl) ?_
                                  refine tl_v rfl (o_load p41 rfl (by repeat (first | with_reducible exact plD_p | apply has_left)) rfl) ?_
                                  refine tl_c rfl (o_call bd32 rfl (Wake_c)) ?_
                                  rintro _ _ ⟨rfl, rfl⟩
                                  refine tl_v rfl (o_eqi rfl rfl) ?_
                                  refine tl_v rfl (o_pick_t rfl (by conv => lhs; whnf)) ?_
                                  refine tl_v rfl (o_move (by conv => lhs; whnf)) ?_
                                  refine tl_bool (d := 142) rfl (fun h => ?_) (fun h => ?_)
                                  · try simp only [decide_eq_true_eq, decide_eq_false_iff_not, Bool.not_eq_true', Bool.not_eq_false', Option.isNone_some, Option.isNone_none, Bool.not_true, Bool.not_false] at h
                                    refine tl_v rfl (o_move (by conv => lhs; whnf)) ?_
                                    refine tl_v rfl (o_nilCheck rfl) ?_
                                    refine tl_v rfl (o_fieldAddr (o := 0) Try.underlying46 rfl rfl sz41 rfl) ?_
                                    refine tl_v rfl (o_load p41 rfl (by repeat (first | with_reducible exact plD_p | apply has_left)) rfl) ?_
                                    refine tl_c rfl (o_call bd47 rfl (Fence_c)) ?_
                                    rintro _ _ ⟨e147, s147, hs147, rfl, rfl⟩
                                    obtain ⟨rfl, rfl⟩ : 0 = e147 ∧ doneS (fenceS { P67.s with off := false }) = s147 := by
                                      have h1 : fe { P67.s with off := false } = (0, doneS (fenceS { P67.s with off := false })) := by
                                        unfold fe; rw [if_neg (by show ¬ false = true; decide)]
                                        rw [(doneS_live (s := fenceS { P67.s with off := false }) hg3).2]
                                      have := h1.symm.trans hs147; simpa using this
                                    refine tl_v rfl (o_eqi rfl rfl) ?_
                                    refine tl_v rfl (o_pick_t rfl (by conv => lhs; whnf)) ?_
                                    refine tl_v rfl (o_assign (by conv => lhs; whnf)) ?_
                                    refine tl_nil ?_
                                    refine q_then_n ?_
                                    refine tc_ret ?_
                                    refine q_then_r (q_block_r (q_then_r (q_then_r (q_block_r (q_then_r ?_)))))
                                    first
                                    | exact ⟨.bool (decide (imgS (armP (1 + after0 % 40) kp Q).s = imgS Q.s)), F, res1 rfl rfl, Dr.sat (by repeat (first | with_reducible exact dr_refl | apply dr_keep | apply dr_drop)), by rw [img_ls armP_ls]; simp, rfl⟩
                                    | exact ⟨.bool true, F, res1 rfl rfl, Dr.sat (by repeat (first | with_reducible exact dr_refl | apply dr_keep | apply dr_drop)), rfl, rfl⟩
                                  · exfalso; simp at h
                                · exfalso; simp [hg2] at h
                      · have hne : P73.s.ops ≠ 1 + after0 % 40 := by simpa using h
                        have hon := key.on (by simpa using h)
                        simp only [Prod.mk.injEq] at hon
                        obtain ⟨rfl, rfl⟩ := hon
                        have hoffq := hLn.off
                        simp only at hoffq hQn hLn
                        refine tc_skip ?_
                        refine q_then_n ?_
                        refine tc_seq ?_
                        refine tc_reg ?_
                        refine tl_v rfl (o_move (by conv => lhs; whnf)) ?_
                        refine tl_v rfl (o_not rfl) ?_
                        refine tl_v rfl (o_move (by conv => lhs; whnf)) ?_
                        refine tl_bool (d := 152) rfl (fun h => ?_) (fun h => ?_)
                        · exfalso; simp at h
                        · try simp only [decide_eq_true_eq, decide_eq_false_iff_not, Bool.not_eq_true', Bool.not_eq_false', Option.isNone_some, Option.isNone_none, Bool.not_true, Bool.not_false] at h
                          refine tl_v rfl (o_move (by conv => lhs; whnf)) ?_
                          refine tl_v rfl (o_nilCheck rfl) ?_
                          refine tl_v rfl (o_fieldAddr (o := 0) Try.underlying46 rfl rfl sz41 rfl) ?_
                          refine tl_v rfl (o_load p41 rfl (by repeat (first | with_reducible exact plD_p | apply has_left)) rfl) ?_
                          refine tl_c rfl (o_call bd31 rfl (Off_c)) ?_
                          rintro _ _ ⟨rfl, rfl⟩
                          refine tl_v rfl (o_pick_f rfl (by conv => lhs; whnf)) ?_
                          refine tl_nil ?_
                          refine q_then_n ?_
                          refine tc_cond rfl (fun h => ?_) (fun h => ?_)
                          · exfalso; simp only [armP] at h; rw [hoffq] at h; cases h
                          · try simp only [decide_eq_true_eq, decide_eq_false_iff_not, Bool.not_eq_true', Bool.not_eq_false', Option.isNone_some, Option.isNone_none, Bool.not_true, Bool.not_false] at h
                            refine tc_skip ?_
                            refine q_block_n (q_then_n ?_)
                            refine tc_reg ?_
                            refine tl_v rfl (o_move (by conv => lhs; whnf)) ?_
                            refine tl_v rfl (by first | exact o_addI rfl rfl (by omega) | exact o_add rfl rfl) ?_
                            refine tl_v rfl (o_assign (by conv => lhs; whnf)) ?_
                            refine tl_nil ?_
                            refine q_then_n ?_
                            exact ⟨_, by omega, i + 1, P73, hvs67, hvs73, by omega, hQn.mono (by omega), hLn, by have := key.near; simp only at this; omega, by have := key.near; simp only at this; omega, rfl, rfl, rfl, rfl, rfl, rfl, rfl, rfl⟩
                  · skip
                    refine oh_v (i := 16) (listed' := #[true, true, true, true, true, true, true, true, true, true, true, true, false, true, true, true, true, false, false, false]) rfl rfl rfl (o_load p41 rfl (by repeat (first | with_reducible exact plD_p | apply has_left)) rfl) ?_
                    refine th_one (i := 12) (by kernel_rfl) ?_
                    refine oh_c (i := 12) (listed' := #[true, true, true, true, true, true, true, true, true, true, true, true, true, true, true, true, true, false, false, false]) rfl rfl rfl (o_call bd41 rfl (Ops_c)) ?_
                    rintro _ _ ⟨rfl, rfl⟩
                    refine ⟨by repeat (first | with_reducible exact dr_refl | apply dr_keep | apply dr_drop), ?_⟩
                    refine th_one (i := 17) (by kernel_rfl) ?_
                    refine oh_c (i := 17) (listed' := #[true, true, true, true, true, true, true, true, true, true, true, true, true, true, true, true, true, true, false, false]) rfl rfl rfl (o_call bd41 rfl (Ops_c)) ?_
                    rintro _ _ ⟨rfl, rfl⟩
                    refine ⟨by repeat (first | with_reducible exact dr_refl | apply dr_keep | apply dr_drop), ?_⟩
                    refine th_take (i := 18) (listed' := #[true, true, true, true, true, true, true, true, true, true, true, true, true, true, true, true, true, true, true, false]) rfl (by kernel_rfl) (by kernel_rfl) (by kernel_rfl) rfl rfl (o_nei rfl rfl) ?_
                    refine th_take (i := 19) (listed' := #[true, true, true, true, true, true, true, true, true, true, true, true, true, true, true, true, true, true, true, true]) rfl (by kernel_rfl) (by kernel_rfl) (by kernel_rfl) rfl rfl (o_pick_f rfl (by conv => lhs; whnf)) ?_
                    refine th_done (by kernel_rfl) ?_
                    refine q_then_n ?_
                    refine tc_cond rfl (fun h => ?_) (fun h => ?_)
                    · exfalso; simp at hops; simp [hops] at h
                    · try simp only [decide_eq_true_eq, decide_eq_false_iff_not, Bool.not_eq_true', Bool.not_eq_false', Option.isNone_some, Option.isNone_none, Bool.not_true, Bool.not_false] at h
                      refine tc_skip ?_
                      refine q_then_n ?_
                      refine tc_seq ?_
                      refine tc_seq ?_
                      refine tc_reg ?_
                      refine tl_v rfl (o_move (by conv => lhs; whnf)) ?_
                      refine tl_v rfl (o_nilCheck rfl) ?_
                      refine tl_v rfl (o_fieldAddr (o := 0) Try.underlying46 rfl rfl sz41 rfl) ?_
                      refine tl_v rfl (o_load p41 rfl (by repeat (first | with_reducible exact plD_p | apply has_left)) rfl) ?_
                      refine tl_c rfl (o_call bd41 rfl (Ops_c)) ?_
                      rintro _ _ ⟨rfl, rfl⟩
                      refine tl_v rfl (o_move (by conv => lhs; whnf)) ?_
                      refine tl_v rfl (o_eqi rfl rfl) ?_
                      refine tl_nil ?_
                      refine q_then_n ?_
                      refine tc_cond rfl (fun h => ?_) (fun h => ?_)
                      · have hg := key.gone (by simpa using h)
                        simp only at hg
                        obtain ⟨hg1, hg2, hg3, hg4⟩ := hg
                        have hrm := room_goes (k := 1) hg4 (by omega)
                        have hoffq := hLn.off
                        simp only at hoffq
                        refine tc_seq ?_
                        refine tc_seq ?_
                        refine tc_regh (S := F * pt b1 (cl [.int .i64 lines, .slice a ss.length c, .int .i64 after0, .slice a2 keep.length c2] 69) * PlD p28 d28 sv28 hv28 lv28 uv28 mv28 hvs67 P67 * Dev d28 P67.s * PlD p34 d34 sv34 hv34 lv34 uv34 mv34 hvs73 P73) mo (by repeat (first | with_reducible exact dr_refl | apply dr_keep | apply dr_drop)) ?_
                        show TH _ _ _ _ _ 33 #[false, false, false, false, false, false, false, false, false, false, false, false, false, false, false, false, false, false, false, false, false, false, false, false, false, false, false, false, false, false, false, false, false] _ _
                        refine th_take (i := 0) (listed' := #[true, false, false, false, false, false, false, false, false, false, false, false, false, false, false, false, false, false, false, false, false, false, false, false, false, false, false, false, false, false, false, false, false]) rfl (by kernel_rfl) (by kernel_rfl) (by kernel_rfl) rfl rfl (o_move (by conv => lhs; whnf)) ?_
                        refine th_take (i := 1) (listed' := #[true, true, false, false, false, false, false, false, false, false, false, false, false, false, false, false, false, false, false, false, false, false, false, false, false, false, false, false, false, false, false, false, false]) rfl (by kernel_rfl) (by kernel_rfl) (by kernel_rfl) rfl rfl (o_move (by conv => lhs; whnf)) ?_
                        refine th_bool (d := 96) rfl (fun h => ?_) (fun h => ?_)
                        · exfalso; simp [hg1] at h
                        · try simp only [decide_eq_true_eq, decide_eq_false_iff_not, Bool.not_eq_true', Bool.not_eq_false', Option.isNone_some, Option.isNone_none, Bool.not_true, Bool.not_false] at h
                          refine th_take (i := 2) (listed' := #[true, true, true, false, false, false, false, false, false, false, false, false, false, false, false, false, false, false, false, false, false, false, false, false, false, false, false, false, false, false, false, false, false]) rfl (by kernel_rfl) (by kernel_rfl) (by kernel_rfl) rfl rfl (o_move (by conv => lhs; whnf)) ?_
                          refine th_take (i := 3) (listed' := #[true, true, true, true, false, false, false, false, false, false, false, false, false, false, false, false, false, false, false, false, false, false, false, false, false, false, false, false, false, false, false, false, false]) rfl (by kernel_rfl) (by kernel_rfl) (by kernel_rfl) rfl rfl (o_nilCheck rfl) ?_
                          refine th_take (i := 4) (listed' := #[true, true, true, true, true, false, false, false, false, false, false, false, false, false, false, false, false, false, false, false, false, false, false, false, false, false, false, false, false, false, false, false, false]) rfl (by kernel_rfl) (by kernel_rfl) (by kernel_rfl) rfl rfl (o_fieldAddr (o := 0) Try.underlying46 rfl rfl sz41 rfl) ?_
                          refine th_take (i := 5) (listed' := #[true, true, true, true, true, true, false, false, false, false, false, false, false, false, false, false, false, false, false, false, false, false, false, false, false, false, false, false, false, false, false, false, false]) rfl (by kernel_rfl) (by kernel_rfl) (by kernel_rfl) rfl rfl (o_load p41 rfl (by repeat (first | with_reducible exact plD_p | apply has_left)) rfl) ?_
                          refine th_one (i := 6) (by kernel_rfl) ?_
                          refine oh_c (i := 6) (listed' := #[true, true, true, true, true, true, true, false, false, false, false, false, false, false, false, false, false, false, false, false, false, false, false, false, false, false, false, false, false, false, false, false, false]) rfl rfl rfl (o_call bd46 rfl (off_c)) ?_
                          rintro _ _ ⟨rfl, rfl⟩
                          refine ⟨by repeat (first | with_reducible exact dr_refl | apply dr_keep | apply dr_drop), ?_⟩
                          refine th_take (i := 7) (listed' := #[true, true, true, true, true, true, true, true, false, false, false, false, false, false, false, false, false, false, false, false, false, false, false, false, false, false, false, false, false, false, false, false, false]) rfl (by kernel_rfl) (by kernel_rfl) (by kernel_rfl) rfl rfl (o_not rfl) ?_
                          refine th_take (i := 8) (listed' := #[true, true, true, true, true, true, true, true, true, false, false, false, false, false, false, false, false, false, false, false, false, false, false, false, false, false, false, false, false, false, false, false, false]) rfl (by kernel_rfl) (by kernel_rfl) (by kernel_rfl) rfl rfl (o_pick_f rfl (by conv => lhs; whnf)) ?_
                          refine th_take (i := 9) (listed' := #[true, true, true, true, true, true, true, true, true, true, false, false, false, false, false, false, false, false, false, false, false, false, false, false, false, false, false, false, false, false, false, false, false]) rfl (by kernel_rfl) (by kernel_rfl) (by kernel_rfl) rfl rfl (o_move (by conv => lhs; whnf)) ?_
                          refine th_bool (d := 104) rfl (fun h => ?_) (fun h => ?_)
                          · exfalso; simp at h
                          · try simp only [decide_eq_true_eq, decide_eq_false_iff_not, Bool.not_eq_true', Bool.not_eq_false', Option.isNone_some, Option.isNone_none, Bool.not_true, Bool.not_false] at h
                            refine th_take (i := 10) (listed' := #[true, true, true, true, true, true, true, true, true, true, true, false, false, false, false, false, false, false, false, false, false, false, false, false, false, false, false, false, false, false, false, false, false]) rfl (by kernel_rfl) (by kernel_rfl) (by kernel_rfl) rfl rfl (o_move (by conv => lhs; whnf)) ?_
                            refine th_take (i := 11) (listed' := #[true, true, true, true, true, true, true, true, true, true, true, true, false, false, false, false, false, false, false, false, false, false, false, false, false, false, false, false, false, false, false, false, false]) rfl (by kernel_rfl) (by kernel_rfl) (by kernel_rfl) rfl rfl (o_nilCheck rfl) ?_
                            refine th_take (i := 12) (listed' := #[true, true, true, true, true, true, true, true, true, true, true, true, true, false, false, false, false, false, false, false, false, false, false, false, false, false, false, false, false, false, false, false, false]) rfl (by kernel_rfl) (by kernel_rfl) (by kernel_rfl) rfl rfl (o_fieldAddr (o := 0) Try.underlying46 rfl rfl sz41 rfl) ?_
                            refine th_take (i := 13) (listed' := #[true, true, true, true, true, true, true, true, true, true, true, true, true, true, false, false, false, false, false, false, false, false, false, false, false, false, false, false, false, false, false, false, false]) rfl (by kernel_rfl) (by kernel_rfl) (by kernel_rfl) rfl rfl (o_load p41 rfl (by repeat (first | with_reducible exact plD_p | apply has_left)) rfl) ?_
                            refine th_take (i := 14) (listed' := #[true, true, true, true, true, true, true, true, true, true, true, true, true, true, true, false, false, false, false, false, false, false, false, false, false, false, false, false, false, false, false, false, false]) rfl (by kernel_rfl) (by kernel_rfl) (by kernel_rfl) rfl rfl (o_move (by conv => lhs; whnf)) ?_
                            refine th_one (i := 15) (by kernel_rfl) ?_
                            refine oh_c (i := 15) (listed' := #[true, true, true, true, true, true, true, true, true, true, true, true, true, true, true, true, false, false, false, false, false, false, false, false, false, false, false, false, false, false, false, false, false]) rfl rfl rfl (o_call bd29 rfl (CopyInts_c (xs := kp))) ?_
                            rintro _ _ ⟨a110, c110, rfl, hc110, rfl⟩
                            refine ⟨by repeat (first | with_reducible exact dr_refl | apply dr_keep | apply dr_drop), ?_⟩
                            refine th_one (i := 16) (by kernel_rfl) ?_
                            refine oh_c (i := 16) (listed' := #[true, true, true, true, true, true, true, true, true, true, true, true, true, true, true, true, true, false, false, false, false, false, false, false, false, false, false, false, false, false, false, false, false]) rfl rfl rfl (o_call bd28 rfl (Crash_c (keep := kp) (hm := rfl) (hk := hkb2))) ?_
                            rintro _ _ ⟨e111, s111, hs111, rfl, rfl⟩
                            refine ⟨by repeat (first | with_reducible exact dr_refl | apply dr_keep | apply dr_drop), ?_⟩
                            have hcr : crS kp P73.s = (0, goesS kp P73.s) := by unfold crS; rw [if_neg (by rw [hoffq]; decide), if_neg (by rw [hlowk]; decide)]
                            obtain ⟨rfl, rfl⟩ : 0 = e111 ∧ goesS kp P73.s = s111 := by have := hcr.symm.trans hs111; simpa using this
                            refine th_take (i := 17) (listed' := #[true, true, true, true, true, true, true, true, true, true, true, true, true, true, true, true, true, true, false, false, false, false, false, false, false, false, false, false, false, false, false, false, false]) rfl (by kernel_rfl) (by kernel_rfl) (by kernel_rfl) rfl rfl (o_nei rfl rfl) ?_
                            refine th_take (i := 18) (listed' := #[true, true, true, true, true, true, true, true, true, true, true, true, true, true, true, true, true, true, true, false, false, false, false, false, false, false, false, false, false, false, false, false, false]) rfl (by kernel_rfl) (by kernel_rfl) (by kernel_rfl) rfl rfl (o_pick_f rfl (by conv => lhs; whnf)) ?_
                            refine th_take (i := 19) (listed' := #[true, true, true, true, true, true, true, true, true, true, true, true, true, true, true, true, true, true, true, true, false, false, false, false, false, false, false, false, false, false, false, false, false]) rfl (by kernel_rfl) (by kernel_rfl) (by kernel_rfl) rfl rfl (o_move (by conv => lhs; whnf)) ?_
                            refine th_bool (d := 114) rfl (fun h => ?_) (fun h => ?_)
                            · exfalso; simp at h
                            · try simp only [decide_eq_true_eq, decide_eq_false_iff_not, Bool.not_eq_true', Bool.not_eq_false', Option.isNone_some, Option.isNone_none, Bool.not_true, Bool.not_false] at h
                              refine th_take (i := 20) (listed' := #[true, true, true, true, true, true, true, true, true, true, true, true, true, true, true, true, true, true, true, true, true, false, false, false, false, false, false, false, false, false, false, false, false]) rfl (by kernel_rfl) (by kernel_rfl) (by kernel_rfl) rfl rfl (o_move (by conv => lhs; whnf)) ?_
                              refine th_take (i := 21) (listed' := #[true, true, true, true, true, true, true, true, true, true, true, true, true, true, true, true, true, true, true, true, true, true, false, false, false, false, false, false, false, false, false, false, false]) rfl (by kernel_rfl) (by kernel_rfl) (by kernel_rfl) rfl rfl (o_nilCheck rfl) ?_
                              refine th_take (i := 22) (listed' := #[true, true, true, true, true, true, true, true, true, true, true, true, true, true, true, true, true, true, true, true, true, true, true, false, false, false, false, false, false, false, false, false, false]) rfl (by kernel_rfl) (by kernel_rfl) (by kernel_rfl) rfl rfl (o_fieldAddr (o := 0) Try.underlying46 rfl rfl sz41 rfl) ?_
                              refine th_take (i := 23) (listed' := #[true, true, true, true, true, true, true, true, true, true, true, true, true, true, true, true, true, true, true, true, true, true, true, true, false, false, false, false, false, false, false, false, false]) rfl (by kernel_rfl) (by kernel_rfl) (by kernel_rfl) rfl rfl (o_load p41 rfl (by repeat (first | with_reducible exact plD_p | apply has_left)) rfl) ?_
                              refine th_take (i := 25) (listed' := #[true, true, true, true, true, true, true, true, true, true, true, true, true, true, true, true, true, true, true, true, true, true, true, true, false, true, false, false, false, false, false, false, false]) rfl (by kernel_rfl) (by kernel_rfl) (by kernel_rfl) rfl rfl (o_move (by conv => lhs; whnf)) ?_
                              refine th_take (i := 26) (listed' := #[true, true, true, true, true, true, true, true, true, true, true, true, true, true, true, true, true, true, true, true, true, true, true, true, false, true, true, false, false, false, false, false, false]) rfl (by kernel_rfl) (by kernel_rfl) (by kernel_rfl) rfl rfl (o_nilCheck rfl) ?_
                              refine th_take (i := 27) (listed' := #[true, true, true, true, true, true, true, true, true, true, true, true, true, true, true, true, true, true, true, true, true, true, true, true, false, true, true, true, false, false, false, false, false]) rfl (by kernel_rfl) (by kernel_rfl) (by kernel_rfl) rfl rfl (o_fieldAddr (o := 0) Try.underlying46 rfl rfl sz41 rfl) ?_
                              refine th_take (i := 28) (listed' := #[true, true, true, true, true, true, true, true, true, true, true, true, true, true, true, true, true, true, true, true, true, true, true, true, false, true, true, true, true, false, false, false, false]) rfl (by kernel_rfl) (by kernel_rfl) (by kernel_rfl) rfl rfl (o_load p41 rfl (by repeat (first | with_reducible exact plD_p | apply has_left)) rfl) ?_
                              refine th_one (i := 24) (by kernel_rfl) ?_
                              refine oh_c (i := 24) (listed' := #[true, true, true, true, true, true, true, true, true, true, true, true, true, true, true, true, true, true, true, true, true, true, true, true, true, true, true, true, true, false, false, false, false]) rfl rfl rfl (o_call bd33 rfl (Image_c)) ?_
                              rintro _ _ ⟨a119, c119, rfl, hc119, rfl⟩
                              refine ⟨by repeat (first | with_reducible exact dr_refl | apply dr_keep | apply dr_drop), ?_⟩
                              refine th_one (i := 29) (by kernel_rfl) ?_
                              refine oh_c (i := 29) (listed' := #[true, true, true, true, true, true, true, true, true, true, true, true, true, true, true, true, true, true, true, true, true, true, true, true, true, true, true, true, true, true, false, false, false]) rfl rfl rfl (o_call bd33 rfl (Image_c)) ?_
                              rintro _ _ ⟨a124, c124, rfl, hc124, rfl⟩
                              refine ⟨by repeat (first | with_reducible exact dr_refl | apply dr_keep | apply dr_drop), ?_⟩
                              refine th_have (fun _ _ h => ct_wf (d := d28) (s := P67.s) (by repeat (first | with_reducible exact ct_here | apply ct_left)) h) fun hw28 => ?_
                              have hl1 := img_length hw28.line
                              have ht28 := hw28.top
                              have hpl : (goesS kp P73.s).ls.length = P67.s.ls.length := by rw [hg4]
                              have hi2 := img_ls hg4
                              refine th_one (i := 30) (by kernel_rfl) ?_
                              refine oh_c (i := 30) (listed' := #[true, true, true, true, true, true, true, true, true, true, true, true, true, true, true, true, true, true, true, true, true, true, true, true, true, true, true, true, true, true, true, false, false]) rfl rfl rfl (o_call bd22 rfl (EqBytes_c (xs := imgS P67.s) (ys := imgS (goesS kp P73.s)) (hx := hl1) (hy := by rw [← hi2, ← hg4]; exact hl1))) ?_
                              rintro _ _ ⟨rfl, rfl⟩
                              refine ⟨by repeat (first | with_reducible exact dr_refl | apply dr_keep | apply dr_drop), ?_⟩
                              refine th_take (i := 31) (listed' := #[true, true, true, true, true, true, true, true, true, true, true, true, true, true, true, true, true, true, true, true, true, true, true, true, true, true, true, true, true, true, true, true, false]) rfl (by kernel_rfl) (by kernel_rfl) (by kernel_rfl) rfl rfl (o_not rfl) ?_
                              refine th_take (i := 32) (listed' := #[true, true, true, true, true, true, true, true, true, true, true, true, true, true, true, true, true, true, true, true, true, true, true, true, true, true, true, true, true, true, true, true, true]) rfl (by kernel_rfl) (by kernel_rfl) (by kernel_rfl) rfl rfl (o_pick_f rfl (by conv => lhs; whnf)) ?_
                              refine th_done (by kernel_rfl) ?_
                              refine q_then_n ?_
                              refine tc_cond rfl (fun h => ?_) (fun h => ?_)
                              · exfalso; simp [hi2] at h
                              · try simp only [decide_eq_true_eq, decide_eq_false_iff_not, Bool.not_eq_true', Bool.not_eq_false', Option.isNone_some, Option.isNone_none, Bool.not_true, Bool.not_false] at h
                                refine tc_skip ?_
                                refine q_then_n ?_
                                refine tc_seq ?_
                                refine tc_reg ?_
                                refine tl_v rfl (o_move (by conv => lhs; whnf)) ?_
                                refine tl_v rfl (o_nilCheck rfl) ?_
                                refine tl_v rfl (o_fieldAddr (o := 0) Try.underlying46 rfl rfl sz41 rfl) ?_
                                refine tl_v rfl (o_load p41 rfl (by repeat (first | with_reducible exact plD_p | apply has_left)) rfl) ?_
                                refine tl_c rfl (o_call bd32 rfl (Wake_c)) ?_
                                rintro _ _ ⟨rfl, rfl⟩
                                refine tl_v rfl (o_eqi rfl rfl) ?_
                                refine tl_v rfl (o_move (by conv => lhs; whnf)) ?_
                                refine tl_bool (d := 134) rfl (fun h => ?_) (fun h => ?_)
                                · try simp only [decide_eq_true_eq, decide_eq_false_iff_not, Bool.not_eq_true', Bool.not_eq_false', Option.isNone_some, Option.isNone_none, Bool.not_true, Bool.not_false] at h
                                  refine tl_v rfl (o_move (by conv => lhs; whnf)) ?_
                                  refine tl_v rfl (o_nilCheck rfl) ?_
                                  refine tl_v rfl (o_fieldAddr (o := 0) Try.underlying46 rfl rfl sz41 rfl) ?_
                                  refine tl_v rfl (o_load p41 rfl (by repeat (first | with_reducible exact plD_p | apply has_left)) rfl) ?_
                                  refine tl_c rfl (o_call bd32 rfl (Wake_c)) ?_
                                  rintro _ _ ⟨rfl, rfl⟩
                                  refine tl_v rfl (o_eqi rfl rfl) ?_
                                  refine tl_v rfl (o_pick_t rfl (by conv => lhs; whnf)) ?_
                                  refine tl_v rfl (o_move (by conv => lhs; whnf)) ?_
                                  refine tl_bool (d := 142) rfl (fun h => ?_) (fun h => ?_)
                                  · try simp only [decide_eq_true_eq, decide_eq_false_iff_not, Bool.not_eq_true', Bool.not_eq_false', Option.isNone_some, Option.isNone_none, Bool.not_true, Bool.not_false] at h
                                    refine tl_v rfl (o_move (by conv => lhs; whnf)) ?_
                                    refine tl_v rfl (o_nilCheck rfl) ?_
                                    refine tl_v rfl (o_fieldAddr (o := 0) Try.underlying46 rfl rfl sz41 rfl) ?_
                                    refine tl_v rfl (o_load p41 rfl (by repeat (first | with_reducible exact plD_p | apply has_left)) rfl) ?_
                                    refine tl_c rfl (o_call bd47 rfl (Fence_c)) ?_
                                    rintro _ _ ⟨e147, s147, hs147, rfl, rfl⟩
                                    obtain ⟨rfl, rfl⟩ : 0 = e147 ∧ doneS (fenceS { P67.s with off := false }) = s147 := by
                                      have h1 : fe { P67.s with off := false } = (0, doneS (fenceS { P67.s with off := false })) := by
                                        unfold fe; rw [if_neg (by show ¬ false = true; decide)]
                                        rw [(doneS_live (s := fenceS { P67.s with off := false }) hg3).2]
                                      have := h1.symm.trans hs147; simpa using this
                                    refine tl_v rfl (o_eqi rfl rfl) ?_
                                    refine tl_v rfl (o_pick_t rfl (by conv => lhs; whnf)) ?_
                                    refine tl_v rfl (o_assign (by conv => lhs; whnf)) ?_
                                    refine tl_nil ?_
                                    refine q_then_n ?_
                                    refine tc_ret ?_
                                    refine q_then_r (q_block_r (q_then_r (q_then_r (q_block_r (q_then_r ?_)))))
                                    first
                                    | exact ⟨.bool (decide (imgS (armP (1 + after0 % 40) kp Q).s = imgS Q.s)), F, res1 rfl rfl, Dr.sat (by repeat (first | with_reducible exact dr_refl | apply dr_keep | apply dr_drop)), by rw [img_ls armP_ls]; simp, rfl⟩
                                    | exact ⟨.bool true, F, res1 rfl rfl, Dr.sat (by repeat (first | with_reducible exact dr_refl | apply dr_keep | apply dr_drop)), rfl, rfl⟩
                                  · exfalso; simp at h
                                · exfalso; simp [hg2] at h
                      · have hne : P73.s.ops ≠ 1 + after0 % 40 := by simpa using h
                        have hon := key.on (by simpa using h)
                        simp only [Prod.mk.injEq] at hon
                        obtain ⟨rfl, rfl⟩ := hon
                        have hoffq := hLn.off
                        simp only at hoffq hQn hLn
                        refine tc_skip ?_
                        refine q_then_n ?_
                        refine tc_seq ?_
                        refine tc_reg ?_
                        refine tl_v rfl (o_move (by conv => lhs; whnf)) ?_
                        refine tl_v rfl (o_not rfl) ?_
                        refine tl_v rfl (o_move (by conv => lhs; whnf)) ?_
                        refine tl_bool (d := 152) rfl (fun h => ?_) (fun h => ?_)
                        · exfalso; simp at h
                        · try simp only [decide_eq_true_eq, decide_eq_false_iff_not, Bool.not_eq_true', Bool.not_eq_false', Option.isNone_some, Option.isNone_none, Bool.not_true, Bool.not_false] at h
                          refine tl_v rfl (o_move (by conv => lhs; whnf)) ?_
                          refine tl_v rfl (o_nilCheck rfl) ?_
                          refine tl_v rfl (o_fieldAddr (o := 0) Try.underlying46 rfl rfl sz41 rfl) ?_
                          refine tl_v rfl (o_load p41 rfl (by repeat (first | with_reducible exact plD_p | apply has_left)) rfl) ?_
                          refine tl_c rfl (o_call bd31 rfl (Off_c)) ?_
                          rintro _ _ ⟨rfl, rfl⟩
                          refine tl_v rfl (o_pick_f rfl (by conv => lhs; whnf)) ?_
                          refine tl_nil ?_
                          refine q_then_n ?_
                          refine tc_cond rfl (fun h => ?_) (fun h => ?_)
                          · exfalso; simp only [armP] at h; rw [hoffq] at h; cases h
                          · try simp only [decide_eq_true_eq, decide_eq_false_iff_not, Bool.not_eq_true', Bool.not_eq_false', Option.isNone_some, Option.isNone_none, Bool.not_true, Bool.not_false] at h
                            refine tc_skip ?_
                            refine q_block_n (q_then_n ?_)
                            refine tc_reg ?_
                            refine tl_v rfl (o_move (by conv => lhs; whnf)) ?_
                            refine tl_v rfl (by first | exact o_addI rfl rfl (by omega) | exact o_add rfl rfl) ?_
                            refine tl_v rfl (o_assign (by conv => lhs; whnf)) ?_
                            refine tl_nil ?_
                            refine q_then_n ?_
                            exact ⟨_, by omega, i + 1, P73, hvs67, hvs73, by omega, hQn.mono (by omega), hLn, by have := key.near; simp only at this; omega, by have := key.near; simp only at this; omega, rfl, rfl, rfl, rfl, rfl, rfl, rfl, rfl⟩
              · try simp only [decide_eq_true_eq, decide_eq_false_iff_not, Bool.not_eq_true', Bool.not_eq_false', Option.isNone_some, Option.isNone_none, Bool.not_true, Bool.not_false] at h
                refine tc_exit ?_
                refine q_then_e (q_then_e (q_block_x (q_then_n ?_)))
                refine tc_seq ?_
                refine tc_regh mo dr_refl ?_
                show TH _ _ _ _ _ 12 #[false, false, false, false, false, false, false, false, false, false, false, false] _ _
                refine th_take (i := 0) (listed' := #[true, false, false, false, false, false, false, false, false, false, false, false]) rfl (by kernel_rfl) (by kernel_rfl) (by kernel_rfl) rfl rfl (o_move (by conv => lhs; whnf)) ?_
                refine th_take (i := 1) (listed' := #[true, true, false, false, false, false, false, false, false, false, false, false]) rfl (by kernel_rfl) (by kernel_rfl) (by kernel_rfl) rfl rfl (o_nilCheck rfl) ?_
                refine th_take (i := 2) (listed' := #[true, true, true, false, false, false, false, false, false, false, false, false]) rfl (by kernel_rfl) (by kernel_rfl) (by kernel_rfl) rfl rfl (o_fieldAddr (o := 0) Try.underlying46 rfl rfl sz41 rfl) ?_
                refine th_take (i := 3) (listed' := #[true, true, true, true, false, false, false, false, false, false, false, false]) rfl (by kernel_rfl) (by kernel_rfl) (by kernel_rfl) rfl rfl (o_load p41 rfl (by repeat (first | with_reducible exact plD_p | apply has_left)) rfl) ?_
                refine th_take (i := 5) (listed' := #[true, true, true, true, false, true, false, false, false, false, false, false]) rfl (by kernel_rfl) (by kernel_rfl) (by kernel_rfl) rfl rfl (o_move (by conv => lhs; whnf)) ?_
                refine th_take (i := 6) (listed' := #[true, true, true, true, false, true, true, false, false, false, false, false]) rfl (by kernel_rfl) (by kernel_rfl) (by kernel_rfl) rfl rfl (o_nilCheck rfl) ?_
                refine th_take (i := 7) (listed' := #[true, true, true, true, false, true, true, true, false, false, false, false]) rfl (by kernel_rfl) (by kernel_rfl) (by kernel_rfl) rfl rfl (o_fieldAddr (o := 0) Try.underlying46 rfl rfl sz41 rfl) ?_
                refine th_take (i := 8) (listed' := #[true, true, true, true, false, true, true, true, true, false, false, false]) rfl (by kernel_rfl) (by kernel_rfl) (by kernel_rfl) rfl rfl (o_load p41 rfl (by repeat (first | with_reducible exact plD_p | apply has_left)) rfl) ?_
                refine th_one (i := 4) (by kernel_rfl) ?_
                refine oh_c (i := 4) (listed' := #[true, true, true, true, true, true, true, true, true, false, false, false]) rfl rfl rfl (o_call bd33 rfl (Image_c)) ?_
                rintro _ _ ⟨a163, c163, rfl, hc163, rfl⟩
                refine ⟨by repeat (first | with_reducible exact dr_refl | apply dr_keep | apply dr_drop), ?_⟩
                refine th_one (i := 9) (by kernel_rfl) ?_
                refine oh_c (i := 9) (listed' := #[true, true, true, true, true, true, true, true, true, true, false, false]) rfl rfl rfl (o_call bd33 rfl (Image_c)) ?_
                rintro _ _ ⟨a168, c168, rfl, hc168, rfl⟩
                refine ⟨by repeat (first | with_reducible exact dr_refl | apply dr_keep | apply dr_drop), ?_⟩
                refine th_have (fun _ _ h => ct_wf (d := d34) (s := Q.s) (by repeat (first | with_reducible exact ct_here | apply ct_left)) h) fun hw34 => ?_
                have hl1 := img_length hw34.line
                have ht34 := hw34.top
                refine th_one (i := 10) (by kernel_rfl) ?_
                refine oh_c (i := 10) (listed' := #[true, true, true, true, true, true, true, true, true, true, true, false]) rfl rfl rfl (o_call bd22 rfl (EqBytes_c (xs := imgS (armP (1 + after0 % 40) kp Q).s) (ys := imgS Q.s) (hx := by rw [img_ls armP_ls, armP_ls]; exact hl1) (hy := hl1) (hn := by rw [armP_ls]; omega))) ?_
                rintro _ _ ⟨rfl, rfl⟩
                refine ⟨by repeat (first | with_reducible exact dr_refl | apply dr_keep | apply dr_drop), ?_⟩
                refine th_take (i := 11) (listed' := #[true, true, true, true, true, true, true, true, true, true, true, true]) rfl (by kernel_rfl) (by kernel_rfl) (by kernel_rfl) rfl rfl (o_assign (by conv => lhs; whnf)) ?_
                refine th_done (by kernel_rfl) ?_
                refine q_then_n ?_
                refine tc_ret ?_
                first
                | exact ⟨.bool (decide (imgS (armP (1 + after0 % 40) kp Q).s = imgS Q.s)), F, res1 rfl rfl, Dr.sat (by repeat (first | with_reducible exact dr_refl | apply dr_keep | apply dr_drop)), by rw [img_ls armP_ls]; simp, rfl⟩
                | exact ⟨.bool true, F, res1 rfl rfl, Dr.sat (by repeat (first | with_reducible exact dr_refl | apply dr_keep | apply dr_drop)), rfl, rfl⟩

end Go.Vl

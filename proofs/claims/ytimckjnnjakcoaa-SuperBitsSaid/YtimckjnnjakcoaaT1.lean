/- vellumlaw10: SuperPlans. Conditions: none. -/
import Derived.Test.YtimckjnnjakcoaaS9
import Derived.Test.YtimckjnnjakcoaaAp
set_option linter.unusedVariables false
set_option linter.unusedSimpArgs false
namespace Go.Vl
open Go Go.Proofs


theorem planT_five (n : Int) : ∃ r0 r1 r2 r3 r4 e : Int, planT n = ([r0, r1, r2, r3, r4], e) ∧ 0 ≤ r4 ∧ r4 ≤ 16384 := by
  by_cases h : 36992 ≤ n ∧ n ≤ 4194304 ∧ n % 64 = 0
  · exact ⟨_, _, _, _, _, _, planT_t h, by omega, by omega⟩
  · exact ⟨_, _, _, _, _, _, planT_f h, by omega, by omega⟩
theorem Plan_q {A : SP} {n e r0 r1 r2 r3 r4 : Int} (hp : planT n = ([r0, r1, r2, r3, r4], e)) : Fn Try.prog 18 #[.int .i64 n] A (fun r B => r = .tuple #[.agg (ints [r0, r1, r2, r3, r4]).toArray, .int .i64 e] ∧ A = B) := by
  have := Plan_c (A := A) (n := n); rw [hp] at this; exact this
theorem PlanR_q {A : SP} {n e r0 r1 r2 r3 r4 : Int} (hp : planT n = ([r0, r1, r2, r3, r4], e)) : Fn Try.prog 19 #[.int .i64 n] A (fun r B => r = .tuple #[.agg (ints [r0, r1, r2, r3, r4]).toArray, .int .i64 e] ∧ A = B) := by
  have := PlanR_c (A := A) (n := n); rw [hp] at this; exact this
theorem lineT_xs (q0 q1 q2 q3 q4 : Int) : ∃ xs e, lineT q0 q1 q2 q3 q4 = (xs, e) ∧ xs.length ≤ 64 := by
  by_cases h : planT q0 = ([q0, q1, q2, q3, q4], 0)
  · exact ⟨_, _, lineT_t h, Nat.le_of_eq (sbB_len rfl)⟩
  · exact ⟨_, _, lineT_f h, by decide⟩
theorem Line_q {A : SP} {q0 q1 q2 q3 q4 e : Int} {xs : List Nat} (h : lineT q0 q1 q2 q3 q4 = (xs, e)) : Fn Try.prog 20 #[.agg (ints [q0, q1, q2, q3, q4]).toArray] A (fun r B => ∃ a c, r = .tuple #[.slice a xs.length c, .int .i64 e] ∧ xs.length ≤ c ∧ B = A * Sl 1 (.slice a xs.length c) xs.length (bys xs)) := by
  have := Line_u (A := A) (q0 := q0) (q1 := q1) (q2 := q2) (q3 := q3) (q4 := q4); rw [h] at this; exact this
theorem LineR_q {A : SP} {q0 q1 q2 q3 q4 e : Int} {xs : List Nat} (h : lineT q0 q1 q2 q3 q4 = (xs, e)) : Fn Try.prog 21 #[.agg (ints [q0, q1, q2, q3, q4]).toArray] A (fun r B => ∃ a c, r = .tuple #[.slice a xs.length c, .int .i64 e] ∧ xs.length ≤ c ∧ B = A * Sl 1 (.slice a xs.length c) xs.length (bys xs)) := by
  have := LineR_u (A := A) (q0 := q0) (q1 := q1) (q2 := q2) (q3 := q3) (q4 := q4); rw [h] at this; exact this

attribute [local irreducible] crk crL crc Sl pt ro mbs sbB planT lineT

set_option maxRecDepth 20000 in
set_option maxHeartbeats 1000000 in
theorem SuperPlansW_f (A : SP) (n s0 s1 s2 s3 s4 : Int) :
    Fn Try.prog 3 #[.int .i64 n, .agg (ints [s0, s1, s2, s3, s4]).toArray] (A) (fun r B => r = .bool true ∧ A = B) := by
  refine fn_enterW (args := [.int .i64 n, .agg (ints [s0, s1, s2, s3, s4]).toArray]) Try.func3 rfl Try.ntmps3 (by simp) ?_
  obtain ⟨r0, r1, r2, r3, r4, pe, hp, hp4, hp5⟩ := planT_five n
  refine tc_seq ?_
  refine tc_reg ?_
  refine tl_x rfl (o_box rfl rfl) ?_
  rintro _ _ ⟨b3, rfl, rfl⟩
  refine tl_v rfl (o_assign (by conv => lhs; whnf)) ?_
  refine tl_nil ?_
  refine q_then_n ?_
  refine tc_seq ?_
  refine tc_reg ?_
  refine tl_v rfl (o_move (by conv => lhs; whnf)) ?_
  refine tl_c rfl (o_call bd18 rfl (Plan_q hp)) ?_
  rintro _ _ ⟨rfl, rfl⟩
  refine tl_v rfl (o_move (by conv => lhs; whnf)) ?_
  refine tl_v rfl (o_extract rfl rfl) ?_
  refine tl_v rfl (o_extract rfl rfl) ?_
  refine tl_x rfl (o_alloc z23 rfl) ?_
  rintro _ _ ⟨b5, rfl, rfl⟩
  refine tl_u rfl (o_stUN (l' := ints [r0, r1, r2, r3, r4]) rfl (by repeat (first | with_reducible exact upd_here | with_reducible exact upd_pt | apply upd_left)) sz23 rfl rfl rfl (by simp) rfl) ?_
  refine tl_v rfl (o_assign (by conv => lhs; whnf)) ?_
  refine tl_nil ?_
  refine q_then_n ?_
  refine tc_seq ?_
  refine tc_reg ?_
  refine tl_v rfl (o_move (by conv => lhs; whnf)) ?_
  refine tl_c rfl (o_call bd19 rfl (PlanR_q hp)) ?_
  rintro _ _ ⟨rfl, rfl⟩
  refine tl_v rfl (o_move (by conv => lhs; whnf)) ?_
  refine tl_v rfl (o_extract rfl rfl) ?_
  refine tl_v rfl (o_extract rfl rfl) ?_
  refine tl_x rfl (o_alloc z23 rfl) ?_
  rintro _ _ ⟨b7, rfl, rfl⟩
  refine tl_u rfl (o_stUN (l' := ints [r0, r1, r2, r3, r4]) rfl (by repeat (first | with_reducible exact upd_here | with_reducible exact upd_pt | apply upd_left)) sz23 rfl rfl rfl (by simp) rfl) ?_
  refine tl_v rfl (o_assign (by conv => lhs; whnf)) ?_
  refine tl_nil ?_
  refine q_then_n ?_
  refine tc_seq ?_
  refine tc_seq ?_
  refine tc_reg ?_
  refine tl_v rfl (o_loadN (vs := ints [r0, r1, r2, r3, r4]) a23 sz23 rfl (by repeat (first | with_reducible exact has_here | with_reducible exact has_pt | apply has_left)) (by show 5 ≤ 5; decide) rfl) ?_
  refine tl_v rfl (o_loadN (vs := ints [r0, r1, r2, r3, r4]) a23 sz23 rfl (by repeat (first | with_reducible exact has_here | with_reducible exact has_pt | apply has_left)) (by show 5 ≤ 5; decide) rfl) ?_
  refine tl_v rfl (o_nest (k := 5) (l := [r0, r1, r2, r3, r4]) (m := [r0, r1, r2, r3, r4]) Try.underlying23 (by kernel_rfl) (by kernel_rfl) (by kernel_rfl) rfl rfl rfl rfl) ?_
  refine tl_v rfl (o_move (by conv => lhs; whnf)) ?_
  refine tl_bool (d := 30) rfl (fun h => ?_) (fun h => ?_)
  · (exfalso; first | (revert h; simp; done) | (simp at h; done) | (revert h; simp; omega) | (simp at h; omega) | omega)
  · try simp only [decide_eq_true_eq, decide_eq_false_iff_not, Bool.not_eq_true', Bool.not_eq_false', Option.isNone_some, Option.isNone_none, Bool.not_true, Bool.not_false] at h
    refine tl_v rfl (o_move (by conv => lhs; whnf)) ?_
    refine tl_v rfl (o_move (by conv => lhs; whnf)) ?_
    refine tl_v rfl (o_nei rfl rfl) ?_
    refine tl_v rfl (o_pick_f rfl (by conv => lhs; whnf)) ?_
    refine tl_nil ?_
    refine q_then_n ?_
    refine tc_cond rfl (fun h => ?_) (fun h => ?_)
    · exfalso; simp at h
    · try simp only [decide_eq_true_eq, decide_eq_false_iff_not, Bool.not_eq_true', Bool.not_eq_false', Option.isNone_some, Option.isNone_none, Bool.not_true, Bool.not_false] at h
      refine tc_skip ?_
      refine q_then_n ?_
      refine tc_seq ?_
      refine tc_reg ?_
      refine tl_v rfl (o_loadN (vs := ints [s0, s1, s2, s3, s4]) a23 sz23 rfl (by repeat (first | with_reducible exact has_here | with_reducible exact has_pt | apply has_left)) (by show 5 ≤ 5; decide) rfl) ?_
      refine tl_v rfl (o_loadN (vs := ints [r0, r1, r2, r3, r4]) a23 sz23 rfl (by repeat (first | with_reducible exact has_here | with_reducible exact has_pt | apply has_left)) (by show 5 ≤ 5; decide) rfl) ?_
      refine tl_v rfl (o_fieldAddr (o := 0) Try.underlying23 rfl rfl sz3 rfl) ?_
      refine tl_v rfl (by first | exact o_load p3 rfl (by repeat (first | with_reducible exact has_here | with_reducible exact has_pt | apply has_left)) rfl | exact o_loadC p3 rfl (by assumption)) ?_
      refine tl_v rfl (o_fieldAddr (o := 1) Try.underlying23 rfl rfl sz3 rfl) ?_
      refine tl_v rfl (by first | exact o_load p3 rfl (by repeat (first | with_reducible exact has_here | with_reducible exact has_pt | apply has_left)) rfl | exact o_loadC p3 rfl (by assumption)) ?_
      refine tl_v rfl (o_fieldAddr (o := 2) Try.underlying23 rfl rfl sz3 rfl) ?_
      refine tl_v rfl (by first | exact o_load p3 rfl (by repeat (first | with_reducible exact has_here | with_reducible exact has_pt | apply has_left)) rfl | exact o_loadC p3 rfl (by assumption)) ?_
      refine tl_v rfl (o_fieldAddr (o := 3) Try.underlying23 rfl rfl sz3 rfl) ?_
      refine tl_v rfl (by first | exact o_load p3 rfl (by repeat (first | with_reducible exact has_here | with_reducible exact has_pt | apply has_left)) rfl | exact o_loadC p3 rfl (by assumption)) ?_
      refine tl_v rfl (o_fieldAddr (o := 4) Try.underlying23 rfl rfl sz3 rfl) ?_
      refine tl_v rfl (by first | exact o_load p3 rfl (by repeat (first | with_reducible exact has_here | with_reducible exact has_pt | apply has_left)) rfl | exact o_loadC p3 rfl (by assumption)) ?_
      refine tl_v rfl (o_addI rfl rfl (by omega)) ?_
      refine tl_v rfl (o_bS (l := ints [r0, r1, r2, r3, r4 + 1]) (pv_cons (by conv => lhs; whnf) (pv_cons (by conv => lhs; whnf) (pv_cons (by conv => lhs; whnf) (pv_cons (by conv => lhs; whnf) (pv_cons (by conv => lhs; whnf) pv_nil))))) Try.underlying23 z23 (pl23 Try.underlying23) rfl) ?_
      refine tl_x rfl (o_buildSliceL (k := 5) (vs := [.agg (ints [s0, s1, s2, s3, s4]).toArray, .agg (ints [r0, r1, r2, r3, r4]).toArray, .agg (ints [r0, r1, r2, r3, r4 + 1]).toArray]) (l := ints [s0, s1, s2, s3, s4, r0, r1, r2, r3, r4, r0, r1, r2, r3, r4 + 1]) Try.underlying27 sz23 z23 rfl rfl (by decide) (by decide) (by intro v hv; simp at hv; rcases hv with rfl | rfl | rfl <;> rfl) rfl) ?_
      rintro _ _ ⟨b49, rfl, rfl⟩
      refine tl_v rfl (o_assign (by conv => lhs; whnf)) ?_
      refine tl_nil ?_
      refine q_then_n ?_
      refine tc_seq ?_
      refine tc_seq ?_
      refine tc_reg ?_
      refine tl_v rfl (o_assign (by conv => lhs; whnf)) ?_
      refine tl_nil ?_
      refine q_then_n ?_
      refine tc_block ?_
      refine tc_loop (fun kk ρ BB => ∃ (i : Nat), (i ≤ 3) ∧ kk = 3 - i ∧ ρ 10 = .int .i64 (i : Nat) ∧ ρ 9 = .slice (some ⟨b49, 0, none⟩) 3 3 ∧ BB = A * pt b3 (cl (ints [s0, s1, s2, s3, s4]) 23) * pt b5 (cl (ints [r0, r1, r2, r3, r4]) 23) * pt b7 (cl (ints [r0, r1, r2, r3, r4]) 23) * pt b49 (cl (ints [s0, s1, s2, s3, s4, r0, r1, r2, r3, r4, r0, r1, r2, r3, r4 + 1]) 23)) (m := 3 - (0)) ?_ ?_
      · exact ⟨0, by omega, rfl, rfl, rfl, rfl⟩
      · intro k ρ B hI
        obtain ⟨i, hp0, hkk1, hE10, hE9, rfl⟩ := hI
        refine tc_env (d := 10) hE10 ?_
        refine tc_env (d := 9) hE9 ?_
        clear hE10 hE9
        refine tc_seq ?_
        refine tc_seq ?_
        refine tc_reg ?_
        refine tl_v rfl (o_move (by conv => lhs; whnf)) ?_
        refine tl_v rfl (o_move (by conv => lhs; whnf)) ?_
        refine tl_v rfl (o_len Try.underlying27 rfl) ?_
        refine tl_v rfl (o_lss rfl rfl) ?_
        refine tl_nil ?_
        refine q_then_n ?_
        refine tc_cond rfl (fun h => ?_) (fun h => ?_)
        · have hi : i < 3 := by simp at h; omega
          obtain ⟨q0, q1, q2, q3, q4, hq⟩ : ∃ q0 q1 q2 q3 q4 : Int, ((ints [s0, s1, s2, s3, s4, r0, r1, r2, r3, r4, r0, r1, r2, r3, r4 + 1]).drop (i * 5)).take 5 = ints [q0, q1, q2, q3, q4] := by
            match i, hi with
            | 0, _ => exact ⟨_, _, _, _, _, rfl⟩
            | 1, _ => exact ⟨_, _, _, _, _, rfl⟩
            | 2, _ => exact ⟨_, _, _, _, _, rfl⟩
          obtain ⟨xs, e, hT, hx64⟩ := lineT_xs q0 q1 q2 q3 q4
          have hlen : xs.length ≤ 4611686018427387904 := by omega
          refine tc_skip ?_
          refine q_then_n ?_
          refine tc_seq ?_
          refine tc_block ?_
          refine tc_seq ?_
          refine tc_reg ?_
          refine tl_v rfl (o_move (by conv => lhs; whnf)) ?_
          refine tl_v rfl (o_move (by conv => lhs; whnf)) ?_
          refine tl_v rfl (o_ixP Try.underlying27 sz23 rfl rfl (by first | omega | (simp only [bys_length, ints_length, wds_length, bos_length, List.length_append, List.length_take, List.length_drop, List.length_singleton]; omega)) (by repeat (first | exact nn_some | with_reducible exact nn_sl (by decide) | exact nn_rs (by assumption) (fun _ => by first | omega | (simp only [bys_length, ints_length, wds_length, bos_length, List.length_append, List.length_take, List.length_drop, List.length_singleton]; omega)) | apply Nn.left))) ?_
          refine tl_v rfl (o_ldPN (a := some ⟨b49, 0, none⟩) (vs := ints [q0, q1, q2, q3, q4]) a23 sz23 rfl (by repeat (first | with_reducible exact rs_pt0 | apply Rs.left)) hq rfl (by decide)) ?_
          refine tl_c rfl (o_call bd20 rfl (Line_q hT)) ?_
          rintro _ _ ⟨a61, c61, rfl, hc61, rfl⟩
          refine tl_v rfl (o_move (by conv => lhs; whnf)) ?_
          refine tl_v rfl (o_extract rfl rfl) ?_
          refine tl_v rfl (o_extract rfl rfl) ?_
          refine tl_v rfl (o_assign (by conv => lhs; whnf)) ?_
          refine tl_v rfl (o_assign (by conv => lhs; whnf)) ?_
          refine tl_nil ?_
          refine q_then_n ?_
          refine tc_seq ?_
          refine tc_reg ?_
          refine tl_v rfl (o_move (by conv => lhs; whnf)) ?_
          refine tl_v rfl (o_move (by conv => lhs; whnf)) ?_
          refine tl_v rfl (o_ixP Try.underlying27 sz23 rfl rfl (by first | omega | (simp only [bys_length, ints_length, wds_length, bos_length, List.length_append, List.length_take, List.length_drop, List.length_singleton]; omega)) (by repeat (first | exact nn_some | with_reducible exact nn_sl (by decide) | exact nn_rs (by assumption) (fun _ => by first | omega | (simp only [bys_length, ints_length, wds_length, bos_length, List.length_append, List.length_take, List.length_drop, List.length_singleton]; omega)) | apply Nn.left))) ?_
          refine tl_v rfl (o_ldPN (a := some ⟨b49, 0, none⟩) (vs := ints [q0, q1, q2, q3, q4]) a23 sz23 rfl (by repeat (first | with_reducible exact rs_pt0 | apply Rs.left)) hq rfl (by decide)) ?_
          refine tl_c rfl (o_call bd20 rfl (Line_q hT)) ?_
          rintro _ _ ⟨a69, c69, rfl, hc69, rfl⟩
          refine tl_v rfl (o_move (by conv => lhs; whnf)) ?_
          refine tl_v rfl (o_extract rfl rfl) ?_
          refine tl_v rfl (o_extract rfl rfl) ?_
          refine tl_v rfl (o_assign (by conv => lhs; whnf)) ?_
          refine tl_v rfl (o_assign (by conv => lhs; whnf)) ?_
          refine tl_nil ?_
          refine q_then_n ?_
          refine tc_seq ?_
          refine tc_reg ?_
          refine tl_v rfl (o_move (by conv => lhs; whnf)) ?_
          refine tl_v rfl (o_move (by conv => lhs; whnf)) ?_
          refine tl_v rfl (o_ixP Try.underlying27 sz23 rfl rfl (by first | omega | (simp only [bys_length, ints_length, wds_length, bos_length, List.length_append, List.length_take, List.length_drop, List.length_singleton]; omega)) (by repeat (first | exact nn_some | with_reducible exact nn_sl (by decide) | exact nn_rs (by assumption) (fun _ => by first | omega | (simp only [bys_length, ints_length, wds_length, bos_length, List.length_append, List.length_take, List.length_drop, List.length_singleton]; omega)) | apply Nn.left))) ?_
          refine tl_v rfl (o_ldPN (a := some ⟨b49, 0, none⟩) (vs := ints [q0, q1, q2, q3, q4]) a23 sz23 rfl (by repeat (first | with_reducible exact rs_pt0 | apply Rs.left)) hq rfl (by decide)) ?_
          refine tl_c rfl (o_call bd21 rfl (LineR_q hT)) ?_
          rintro _ _ ⟨a77, c77, rfl, hc77, rfl⟩
          refine tl_v rfl (o_move (by conv => lhs; whnf)) ?_
          refine tl_v rfl (o_extract rfl rfl) ?_
          refine tl_v rfl (o_extract rfl rfl) ?_
          refine tl_v rfl (o_assign (by conv => lhs; whnf)) ?_
          refine tl_v rfl (o_assign (by conv => lhs; whnf)) ?_
          refine tl_nil ?_
          refine q_then_n ?_
          refine tc_seq ?_
          refine tc_reg ?_
          refine tl_v rfl (o_move (by conv => lhs; whnf)) ?_
          refine tl_v rfl (o_move (by conv => lhs; whnf)) ?_
          refine tl_v rfl (o_nei rfl rfl) ?_
          refine tl_v rfl (o_move (by conv => lhs; whnf)) ?_
          refine tl_bool (d := 83) rfl (fun h => ?_) (fun h => ?_)
          · (exfalso; first | (revert h; simp; done) | (simp at h; done) | (revert h; simp; omega) | (simp at h; omega) | omega)
          · try simp only [decide_eq_true_eq, decide_eq_false_iff_not, Bool.not_eq_true', Bool.not_eq_false', Option.isNone_some, Option.isNone_none, Bool.not_true, Bool.not_false] at h
            refine tl_v rfl (o_move (by conv => lhs; whnf)) ?_
            refine tl_v rfl (o_move (by conv => lhs; whnf)) ?_
            refine tl_c rfl (o_call bd22 rfl (EqBytes_c (xs := xs) (ys := xs) (h1 := rs_sl.left.left) (h2 := rs_sl))) ?_
            rintro _ _ ⟨rfl, rfl⟩
            refine tl_v rfl (o_not rfl) ?_
            refine tl_v rfl (o_pick_f rfl (by conv => lhs; whnf)) ?_
            refine tl_v rfl (o_move (by conv => lhs; whnf)) ?_
            refine tl_bool (d := 89) rfl (fun h => ?_) (fun h => ?_)
            · (exfalso; first | (revert h; simp; done) | (simp at h; done) | (revert h; simp; omega) | (simp at h; omega) | omega)
            · try simp only [decide_eq_true_eq, decide_eq_false_iff_not, Bool.not_eq_true', Bool.not_eq_false', Option.isNone_some, Option.isNone_none, Bool.not_true, Bool.not_false] at h
              refine tl_v rfl (o_move (by conv => lhs; whnf)) ?_
              refine tl_v rfl (o_move (by conv => lhs; whnf)) ?_
              refine tl_c rfl (o_call bd22 rfl (EqBytes_c (xs := xs) (ys := xs) (h1 := rs_sl.left) (h2 := rs_sl))) ?_
              rintro _ _ ⟨rfl, rfl⟩
              refine tl_v rfl (o_not rfl) ?_
              refine tl_v rfl (o_pick_f rfl (by conv => lhs; whnf)) ?_
              refine tl_v rfl (o_move (by conv => lhs; whnf)) ?_
              refine tl_bool (d := 95) rfl (fun h => ?_) (fun h => ?_)
              · (exfalso; first | (revert h; simp; done) | (simp at h; done) | (revert h; simp; omega) | (simp at h; omega) | omega)
              · try simp only [decide_eq_true_eq, decide_eq_false_iff_not, Bool.not_eq_true', Bool.not_eq_false', Option.isNone_some, Option.isNone_none, Bool.not_true, Bool.not_false] at h
                refine tl_v rfl (o_move (by conv => lhs; whnf)) ?_
                refine tl_v rfl (o_move (by conv => lhs; whnf)) ?_
                refine tl_x rfl (o_buildSliceL (k := 1) (vs := [.slice a61 xs.length c61, .slice a69 xs.length c69]) (l := [.slice a61 xs.length c61, .slice a69 xs.length c69]) Try.underlying33 sz28 z28 rfl rfl (by decide) (by decide) (by intro v hv; simp at hv; rcases hv with rfl | rfl <;> rfl) rfl) ?_
                rintro _ _ ⟨b98, rfl, rfl⟩
                refine tl_pre (A' := A * pt b3 (cl (ints [s0, s1, s2, s3, s4]) 23) * pt b5 (cl (ints [r0, r1, r2, r3, r4]) 23) * pt b7 (cl (ints [r0, r1, r2, r3, r4]) 23) * pt b49 (cl (ints [s0, s1, s2, s3, s4, r0, r1, r2, r3, r4, r0, r1, r2, r3, r4 + 1]) 23) * Sl 1 (.slice a77 xs.length c77) xs.length (bys xs) * Parts [.slice a61 xs.length c61, .slice a69 xs.length c69] [xs, xs] * Sl 1 (.slice (some ⟨b98, 0, none⟩) 2 2) 2 [.slice a61 xs.length c61, .slice a69 xs.length c69]) (fun _ _ h => sl_new (k := 1) (n := 2) (cap := 2) (h.perm (by show _ = _ * (emp * _ * _) * _; rw [emp_star]; ac_rfl)) (by decide) (by show 2 * 1 ≤ 2; decide) rfl) ?_
                refine tl_c rfl (o_call bd23 rfl (Apart_c [xs, xs] rfl (by decide) (by intro l hl; simp at hl; subst hl; omega))) ?_
                rintro _ _ ⟨rfl, rfl⟩
                refine tl_v rfl (o_not rfl) ?_
                refine tl_v rfl (o_pick_f rfl (by conv => lhs; whnf)) ?_
                refine tl_nil ?_
                refine q_then_n ?_
                refine tc_cond rfl (fun h => ?_) (fun h => ?_)
                · exfalso; simp at h
                · try simp only [decide_eq_true_eq, decide_eq_false_iff_not, Bool.not_eq_true', Bool.not_eq_false', Option.isNone_some, Option.isNone_none, Bool.not_true, Bool.not_false] at h
                  refine tc_skip ?_
                  refine q_block_n (q_then_n ?_)
                  refine tc_pre (Dr.sat (A' := A * pt b3 (cl (ints [s0, s1, s2, s3, s4]) 23) * pt b5 (cl (ints [r0, r1, r2, r3, r4]) 23) * pt b7 (cl (ints [r0, r1, r2, r3, r4]) 23) * pt b49 (cl (ints [s0, s1, s2, s3, s4, r0, r1, r2, r3, r4, r0, r1, r2, r3, r4 + 1]) 23)) (by repeat (first | with_reducible exact dr_refl | apply dr_keep | apply dr_drop))) ?_
                  refine tc_reg ?_
                  refine tl_v rfl (o_move (by conv => lhs; whnf)) ?_
                  refine tl_v rfl (by first | exact o_addI rfl rfl (by omega) | exact o_add rfl rfl) ?_
                  refine tl_v rfl (o_assign (by conv => lhs; whnf)) ?_
                  refine tl_nil ?_
                  refine q_then_n ?_
                  exact ⟨_, by omega, i + 1, by omega, rfl, rfl, rfl, rfl⟩
        · try simp only [decide_eq_true_eq, decide_eq_false_iff_not, Bool.not_eq_true', Bool.not_eq_false', Option.isNone_some, Option.isNone_none, Bool.not_true, Bool.not_false] at h
          refine tc_exit ?_
          refine q_then_e (q_then_e (q_block_x (q_then_n ?_)))
          refine tc_seq ?_
          refine tc_reg ?_
          refine tl_c rfl (o_call bd24 rfl (works_c)) ?_
          rintro _ _ ⟨rfl, rfl⟩
          refine tl_v rfl (o_assign (by conv => lhs; whnf)) ?_
          refine tl_nil ?_
          refine q_then_n ?_
          refine tc_ret ?_
          exact ⟨.bool true, A, res1 rfl rfl, Dr.sat (by repeat (first | with_reducible exact dr_refl | apply dr_keep | apply dr_drop)), rfl, rfl⟩

end Go.Vl

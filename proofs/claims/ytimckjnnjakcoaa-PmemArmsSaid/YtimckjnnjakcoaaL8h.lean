/- vellumlaw08: PmemLasts, walked (the power goes). Conditions: none. -/
import Derived.Test.YtimckjnnjakcoaaL8g
set_option linter.unusedVariables false
set_option linter.unusedSimpArgs false
namespace Go.Vl
open Go Go.Proofs

set_option maxRecDepth 20000 in
set_option maxHeartbeats 2000000 in
theorem PmemLastsGood_f (F : SP) (lines : Int) (a a2 : Option Addr) (c c2 n : Nat) (ss : List StepC) (keep : List Int) (P : PlS) (hn : n = 1 + wi lines 4) (hPd : P = playL ss (begS n)) (hr : Rd F a (scs ss)) (hr2 : Rd F a2 (ints keep)) (hss : ∀ t ∈ ss, t.v < 18446744073709551616) (hl : ss.length + 16 ≤ 2199023255552) (hkl : keep.length ≤ 17592186044416) (hkb : ∀ k ∈ keep, k ≤ 9223372036854775807) (s2 : DevS) (hlow : lowB keep = false) (hs2 : s2 = { goesS keep P.s with off := false }) (hL : Lasts P s2) :
    Fn Try.prog 4 #[.int .i64 lines, .slice a ss.length c, .slice a2 keep.length c2] (F) (fun r B => r = .bool true ∧ B = F) := by
  have hE := @fn_enterW Try.prog 4 Try.f4 _ [.int .i64 lines, .slice a ss.length c, .slice a2 keep.length c2] (F) (fun r B => r = .bool true ∧ B = F) _ Try.func4 rfl Try.ntmps4 (by simp)
  refine hE ?_
  clear hE
  have hwi := wi_lt (p := lines) (show 0 < 4 by omega)
  have hn0 : 0 < n := by omega
  have hn4 : n ≤ 4 := by omega
  refine tc_seq ?_
  refine tc_reg ?_
  refine tl_v rfl (o_assign rfl) ?_
  refine tl_nil ?_
  refine q_then_n ?_
  refine tc_seq ?_
  refine tc_seq ?_
  refine tc_reg ?_
  refine tl_c rfl (o_call bd25 rfl ((awake_f F).mono (Q' := fun r B => r = .bool true ∧ F = B) fun _ _ h => ⟨h.1, h.2.symm⟩)) ?_
  rintro _ _ ⟨rfl, rfl⟩
  refine tl_v rfl (o_not rfl) ?_
  refine tl_nil ?_
  refine q_then_n ?_
  refine tc_cond rfl (fun h => ?_) (fun h => ?_)
  · (exfalso; first | (revert h; simp; done) | (revert h; simp; omega) | (simp at h; omega) | omega)
  · try simp only [decide_eq_true_eq, decide_eq_false_iff_not, Bool.not_eq_true', Bool.not_eq_false', Option.isNone_some, Option.isNone_none, Bool.not_true, Bool.not_false] at h
    refine tc_skip ?_
    refine q_then_n ?_
    refine tc_seq ?_
    refine tc_reg ?_
    refine tl_v rfl (o_move rfl) ?_
    refine tl_v rfl (o_move rfl) ?_
    refine tl_c rfl (o_call bd26 rfl (begun_f F lines a c n ss hn hr hss hl)) ?_
    rintro u22 _ ⟨p, d, sv, hv, lv, uv, mv, hvs, rfl, rfl⟩
    obtain ⟨hP, hLv⟩ := playL_ok ss (r := 1) (P := begS n) (begS_wf (by omega) (by omega) (by omega)) (begS_live n)
    rw [← hPd] at hP hLv ⊢
    clear hPd
    have hw0 : 0 < P.seen.length := by have := hP.seen; have := hP.pos; omega
    have hseen := hP.seen
    have htop := hP.top
    have hpos := hP.pos
    have hlastl := hP.last
    have hsurel := hP.sure
    have hheldl := hP.held
    have hlsl := hP.ls
    refine tl_eq plC_eq ?_
    refine tl_have (fun _ _ h => Foc.have_sl1 (k := 1) (n := P.seen.length) (v := sv) (xs := wds P.seen) (Y := Sl 1 sv P.seen.length (wds P.seen)) (by repeat (first | exact foc_here | apply foc_left)) (by omega) h) fun ⟨bs, os, cs, hsv, _, _⟩ => ?_
    refine tl_have (fun _ _ h => Foc.have_sl1 (k := 1) (n := P.seen.length) (v := hv) (xs := hvs) (Y := Sl 1 hv P.seen.length hvs) (by repeat (first | exact foc_here | apply foc_left)) (by omega) h) fun ⟨bh, oh, ch, hhv, _, hvl⟩ => ?_
    refine tl_have (fun _ _ h => Foc.have_sl1 (k := 1) (n := P.seen.length) (v := lv) (xs := wds P.last) (Y := Sl 1 lv P.seen.length (wds P.last)) (by repeat (first | exact foc_here | apply foc_left)) (by omega) h) fun ⟨bl, ol, cL, hlv, _, _⟩ => ?_
    refine tl_have (fun _ _ h => Foc.have_sl1 (k := 1) (n := P.seen.length) (v := uv) (xs := bos P.sure) (Y := Sl 1 uv P.seen.length (bos P.sure)) (by repeat (first | exact foc_here | apply foc_left)) (by omega) h) fun ⟨bu, ou, cu, huv, _, _⟩ => ?_
    refine tl_have (fun _ _ h => Foc.have_sl1 (k := 1) (n := P.marks.length) (v := mv) (xs := ints P.marks) (Y := Sl 1 mv P.marks.length (ints P.marks)) (by repeat (first | exact foc_here | apply foc_left)) (by omega) h) fun ⟨bm, om, cm, hmv, _, _⟩ => ?_
    subst hsv hhv hlv huv hmv
    refine tl_v rfl (o_move rfl) ?_
    refine tl_v rfl (o_extract rfl rfl) ?_
    refine tl_v rfl (o_extract rfl rfl) ?_
    refine tl_v rfl (o_assign rfl) ?_
    refine tl_v rfl (o_assign rfl) ?_
    refine tl_nil ?_
    refine q_then_n ?_
    refine tc_seq ?_
    refine tc_seq ?_
    refine tc_reg ?_
    refine tl_v rfl (o_move rfl) ?_
    refine tl_v rfl (o_not rfl) ?_
    refine tl_nil ?_
    refine q_then_n ?_
    refine tc_cond rfl (fun h => ?_) (fun h => ?_)
    · (exfalso; first | (revert h; simp; done) | (revert h; simp; omega) | (simp at h; omega) | omega)
    · try simp only [decide_eq_true_eq, decide_eq_false_iff_not, Bool.not_eq_true', Bool.not_eq_false', Option.isNone_some, Option.isNone_none, Bool.not_true, Bool.not_false] at h
      refine tc_skip ?_
      refine q_then_n ?_
      refine tc_seq ?_
      refine tc_cut (fun ρ A => ∃ b9 o9 c9, ρ 2 = .slice a2 keep.length c2 ∧ ρ 7 = .pointer (some ⟨p, 0, none⟩) ∧ ρ 9 = .slice (some ⟨b9, o9, none⟩) (8 * P.seen.length) c9 ∧ ρ 10 = .int .i64 0 ∧ A = F * Words hvs P.held * pt p (cl (pcs d (.slice (some ⟨bs, os, none⟩) P.seen.length cs) (.slice (some ⟨bh, oh, none⟩) P.seen.length ch) (.slice (some ⟨bl, ol, none⟩) P.seen.length cL) (.slice (some ⟨bu, ou, none⟩) P.seen.length cu) (.slice (some ⟨bm, om, none⟩) P.marks.length cm)) 46) * Sl 1 (.slice (some ⟨bs, os, none⟩) P.seen.length cs) P.seen.length (wds P.seen) * Sl 1 (.slice (some ⟨bh, oh, none⟩) P.seen.length ch) P.seen.length hvs * Sl 1 (.slice (some ⟨bl, ol, none⟩) P.seen.length cL) P.seen.length (wds P.last) * Sl 1 (.slice (some ⟨bu, ou, none⟩) P.seen.length cu) P.seen.length (bos P.sure) * Sl 1 (.slice (some ⟨bm, om, none⟩) P.marks.length cm) P.marks.length (ints P.marks) * Dev d P.s * Sl 1 (.slice (some ⟨b9, o9, none⟩) (8 * P.seen.length) c9) (8 * P.seen.length) (bys (((imgS P.s).drop 0).take (8 * P.seen.length)))) ?_ ?_
      · skip
        refine tc_rega mo ?_
        show TA _ _ _ _ 16 #[false, false, false, false, false, false, false, false, false, false, false, false, false, false, false, false] _ _
        refine ta_pure (i := 0) (listed' := #[true, false, false, false, false, false, false, false, false, false, false, false, false, false, false, false]) rfl (by kernel_rfl) (by kernel_rfl) (by kernel_rfl) rfl rfl (o_move rfl) ?_
        refine ta_pure (i := 1) (listed' := #[true, true, false, false, false, false, false, false, false, false, false, false, false, false, false, false]) rfl (by kernel_rfl) (by kernel_rfl) (by kernel_rfl) rfl rfl (o_nilCheck rfl) ?_
        refine ta_pure (i := 2) (listed' := #[true, true, true, false, false, false, false, false, false, false, false, false, false, false, false, false]) rfl (by kernel_rfl) (by kernel_rfl) (by kernel_rfl) rfl rfl (o_fieldAddr (o := 0) Try.underlying46 rfl rfl sz41 rfl) ?_
        refine ta_pure (i := 4) (listed' := #[true, true, true, false, true, false, false, false, false, false, false, false, false, false, false, false]) rfl (by kernel_rfl) (by kernel_rfl) (by kernel_rfl) rfl rfl (o_move rfl) ?_
        refine ta_pure (i := 5) (listed' := #[true, true, true, false, true, true, false, false, false, false, false, false, false, false, false, false]) rfl (by kernel_rfl) (by kernel_rfl) (by kernel_rfl) rfl rfl (o_nilCheck rfl) ?_
        refine ta_pure (i := 6) (listed' := #[true, true, true, false, true, true, true, false, false, false, false, false, false, false, false, false]) rfl (by kernel_rfl) (by kernel_rfl) (by kernel_rfl) rfl rfl (o_fieldAddr (o := 1) Try.underlying46 rfl rfl sz42 rfl) ?_
        refine ta_two (i := 3) (j := 7) (by kernel_rfl) ?_ ?_
        · skip
          refine oa_v (i := 3) (listed' := #[true, true, true, true, true, true, true, false, false, false, false, false, false, false, false, false]) rfl rfl rfl (o_load p41 rfl (by repeat (first | exact has_here | exact has_pt | apply has_left)) rfl) ?_
          refine ta_one (i := 7) (by kernel_rfl) ?_
          refine oa_v (i := 7) (listed' := #[true, true, true, true, true, true, true, true, false, false, false, false, false, false, false, false]) rfl rfl rfl (o_load p42 rfl (by repeat (first | exact has_here | exact has_pt | apply has_left)) rfl) ?_
          refine ta_pure (i := 8) (listed' := #[true, true, true, true, true, true, true, true, true, false, false, false, false, false, false, false]) rfl (by kernel_rfl) (by kernel_rfl) (by kernel_rfl) rfl rfl (o_len Try.underlying42 rfl) ?_
          refine ta_pure (i := 9) (listed' := #[true, true, true, true, true, true, true, true, true, true, false, false, false, false, false, false]) rfl (by kernel_rfl) (by kernel_rfl) (by kernel_rfl) rfl rfl (by first | exact o_mulI rfl rfl (by omega) | exact o_mul rfl rfl) ?_
          refine ta_one (i := 10) (by kernel_rfl) ?_
          refine oa_c (i := 10) (listed' := #[true, true, true, true, true, true, true, true, true, true, true, false, false, false, false, false]) rfl rfl rfl (o_call bd27 rfl (LoadD_f (p := 0) (m := 8 * P.seen.length) (W := ((imgS P.s).drop 0).take (8 * P.seen.length)) hLv.off (by omega) rfl)) ?_
          rintro u38 _ ⟨_, rfl, u9, rfl, rfl⟩
          refine ta_have (fun _ _ h => Foc.have_sl1 (k := 1) (n := 8 * P.seen.length) (v := u9) (xs := bys (((imgS P.s).drop 0).take (8 * P.seen.length))) (Y := Sl 1 u9 (8 * P.seen.length) (bys (((imgS P.s).drop 0).take (8 * P.seen.length)))) (by repeat (first | exact foc_here | apply foc_left)) (by omega) h) fun ⟨b9, o9, c9, hv9, _, _⟩ => ?_
          subst hv9
          refine ta_pure (i := 11) (listed' := #[true, true, true, true, true, true, true, true, true, true, true, true, false, false, false, false]) rfl (by kernel_rfl) (by kernel_rfl) (by kernel_rfl) rfl rfl (o_move rfl) ?_
          refine ta_pure (i := 12) (listed' := #[true, true, true, true, true, true, true, true, true, true, true, true, true, false, false, false]) rfl (by kernel_rfl) (by kernel_rfl) (by kernel_rfl) rfl rfl (o_extract rfl rfl) ?_
          refine ta_pure (i := 13) (listed' := #[true, true, true, true, true, true, true, true, true, true, true, true, true, true, false, false]) rfl (by kernel_rfl) (by kernel_rfl) (by kernel_rfl) rfl rfl (o_extract rfl rfl) ?_
          refine ta_pure (i := 14) (listed' := #[true, true, true, true, true, true, true, true, true, true, true, true, true, true, true, false]) rfl (by kernel_rfl) (by kernel_rfl) (by kernel_rfl) rfl rfl (o_assign rfl) ?_
          refine ta_pure (i := 15) (listed' := #[true, true, true, true, true, true, true, true, true, true, true, true, true, true, true, true]) rfl (by kernel_rfl) (by kernel_rfl) (by kernel_rfl) rfl rfl (o_assign rfl) ?_
          refine ta_done (by kernel_rfl) ?_
          exact ⟨b9, o9, c9, rfl, rfl, rfl, rfl, rfl⟩
        · skip
          refine oa_v (i := 7) (listed' := #[true, true, true, false, true, true, true, true, false, false, false, false, false, false, false, false]) rfl rfl rfl (o_load p42 rfl (by repeat (first | exact has_here | exact has_pt | apply has_left)) rfl) ?_
          refine ta_pure (i := 8) (listed' := #[true, true, true, false, true, true, true, true, true, false, false, false, false, false, false, false]) rfl (by kernel_rfl) (by kernel_rfl) (by kernel_rfl) rfl rfl (o_len Try.underlying42 rfl) ?_
          refine ta_pure (i := 9) (listed' := #[true, true, true, false, true, true, true, true, true, true, false, false, false, false, false, false]) rfl (by kernel_rfl) (by kernel_rfl) (by kernel_rfl) rfl rfl (by first | exact o_mulI rfl rfl (by omega) | exact o_mul rfl rfl) ?_
          refine ta_one (i := 3) (by kernel_rfl) ?_
          refine oa_v (i := 3) (listed' := #[true, true, true, true, true, true, true, true, true, true, false, false, false, false, false, false]) rfl rfl rfl (o_load p41 rfl (by repeat (first | exact has_here | exact has_pt | apply has_left)) rfl) ?_
          refine ta_one (i := 10) (by kernel_rfl) ?_
          refine oa_c (i := 10) (listed' := #[true, true, true, true, true, true, true, true, true, true, true, false, false, false, false, false]) rfl rfl rfl (o_call bd27 rfl (LoadD_f (p := 0) (m := 8 * P.seen.length) (W := ((imgS P.s).drop 0).take (8 * P.seen.length)) hLv.off (by omega) rfl)) ?_
          rintro u38 _ ⟨_, rfl, u9, rfl, rfl⟩
          refine ta_have (fun _ _ h => Foc.have_sl1 (k := 1) (n := 8 * P.seen.length) (v := u9) (xs := bys (((imgS P.s).drop 0).take (8 * P.seen.length))) (Y := Sl 1 u9 (8 * P.seen.length) (bys (((imgS P.s).drop 0).take (8 * P.seen.length)))) (by repeat (first | exact foc_here | apply foc_left)) (by omega) h) fun ⟨b9, o9, c9, hv9, _, _⟩ => ?_
          subst hv9
          refine ta_pure (i := 11) (listed' := #[true, true, true, true, true, true, true, true, true, true, true, true, false, false, false, false]) rfl (by kernel_rfl) (by kernel_rfl) (by kernel_rfl) rfl rfl (o_move rfl) ?_
          refine ta_pure (i := 12) (listed' := #[true, true, true, true, true, true, true, true, true, true, true, true, true, false, false, false]) rfl (by kernel_rfl) (by kernel_rfl) (by kernel_rfl) rfl rfl (o_extract rfl rfl) ?_
          refine ta_pure (i := 13) (listed' := #[true, true, true, true, true, true, true, true, true, true, true, true, true, true, false, false]) rfl (by kernel_rfl) (by kernel_rfl) (by kernel_rfl) rfl rfl (o_extract rfl rfl) ?_
          refine ta_pure (i := 14) (listed' := #[true, true, true, true, true, true, true, true, true, true, true, true, true, true, true, false]) rfl (by kernel_rfl) (by kernel_rfl) (by kernel_rfl) rfl rfl (o_assign rfl) ?_
          refine ta_pure (i := 15) (listed' := #[true, true, true, true, true, true, true, true, true, true, true, true, true, true, true, true]) rfl (by kernel_rfl) (by kernel_rfl) (by kernel_rfl) rfl rfl (o_assign rfl) ?_
          refine ta_done (by kernel_rfl) ?_
          exact ⟨b9, o9, c9, rfl, rfl, rfl, rfl, rfl⟩
      · intro ρ A hI
        obtain ⟨b9, o9, c9, h2, h7, h9, h10, rfl⟩ := hI
        refine q_then_n ?_
        refine tc_env (d := 2) h2 ?_
        refine tc_env (d := 7) h7 ?_
        refine tc_env (d := 9) h9 ?_
        refine tc_env (d := 10) h10 ?_
        refine tc_seq ?_
        refine tc_seq ?_
        refine tc_reg ?_
        refine tl_v rfl (o_move rfl) ?_
        refine tl_v rfl (o_nei rfl rfl) ?_
        refine tl_v rfl (o_move rfl) ?_
        refine tl_bool (d := 43) rfl (fun h => ?_) (fun h => ?_)
        · (exfalso; first | (revert h; simp; done) | (revert h; simp; omega) | (simp at h; omega) | omega)
        · try simp only [decide_eq_true_eq, decide_eq_false_iff_not, Bool.not_eq_true', Bool.not_eq_false', Option.isNone_some, Option.isNone_none, Bool.not_true, Bool.not_false] at h
          refine tl_v rfl (o_move rfl) ?_
          refine tl_v rfl (o_len Try.underlying28 rfl) ?_
          refine tl_v rfl (o_move rfl) ?_
          refine tl_v rfl (o_nilCheck rfl) ?_
          refine tl_v rfl (o_fieldAddr (o := 1) Try.underlying46 rfl rfl sz42 rfl) ?_
          refine tl_v rfl (o_load p42 rfl (by repeat (first | exact has_here | exact has_pt | apply has_left)) rfl) ?_
          refine tl_v rfl (o_len Try.underlying42 rfl) ?_
          refine tl_v rfl (by first | exact o_mulI rfl rfl (by omega) | exact o_mul rfl rfl) ?_
          refine tl_v rfl (o_nei rfl rfl) ?_
          refine tl_v rfl (by first | exact o_pick_t rfl rfl | exact o_pick_f rfl rfl | exact o_pick rfl rfl) ?_
          refine tl_nil ?_
          refine q_then_n ?_
          refine tc_cond rfl (fun h => ?_) (fun h => ?_)
          · (exfalso; first | (revert h; simp; done) | (revert h; simp; omega) | (simp at h; omega) | omega)
          · try simp only [decide_eq_true_eq, decide_eq_false_iff_not, Bool.not_eq_true', Bool.not_eq_false', Option.isNone_some, Option.isNone_none, Bool.not_true, Bool.not_false] at h
            refine tc_skip ?_
            refine q_then_n ?_
            refine tc_seq ?_
            refine tc_cut (fun ρ A => ∃ a59 c59, ρ 2 = .slice a2 keep.length c2 ∧ ρ 7 = .pointer (some ⟨p, 0, none⟩) ∧ ρ 9 = .slice (some ⟨b9, o9, none⟩) (8 * P.seen.length) c9 ∧ ρ 11 = .int .i64 0 ∧ A = F * Words hvs P.held * pt p (cl (pcs d (.slice (some ⟨bs, os, none⟩) P.seen.length cs) (.slice (some ⟨bh, oh, none⟩) P.seen.length ch) (.slice (some ⟨bl, ol, none⟩) P.seen.length cL) (.slice (some ⟨bu, ou, none⟩) P.seen.length cu) (.slice (some ⟨bm, om, none⟩) P.marks.length cm)) 46) * Sl 1 (.slice (some ⟨bs, os, none⟩) P.seen.length cs) P.seen.length (wds P.seen) * Sl 1 (.slice (some ⟨bh, oh, none⟩) P.seen.length ch) P.seen.length hvs * Sl 1 (.slice (some ⟨bl, ol, none⟩) P.seen.length cL) P.seen.length (wds P.last) * Sl 1 (.slice (some ⟨bu, ou, none⟩) P.seen.length cu) P.seen.length (bos P.sure) * Sl 1 (.slice (some ⟨bm, om, none⟩) P.marks.length cm) P.marks.length (ints P.marks) * Sl 1 (.slice (some ⟨b9, o9, none⟩) (8 * P.seen.length) c9) (8 * P.seen.length) (bys (((imgS P.s).drop 0).take (8 * P.seen.length))) * Sl 1 (.slice a59 keep.length c59) keep.length (ints keep) * Dev d (goesS keep P.s)) ?_ ?_
            · skip
              refine tc_rega mo ?_
              show TA _ _ _ _ 8 #[false, false, false, false, false, false, false, false] _ _
              refine ta_pure (i := 0) (listed' := #[true, false, false, false, false, false, false, false]) rfl (by kernel_rfl) (by kernel_rfl) (by kernel_rfl) rfl rfl (o_move rfl) ?_
              refine ta_pure (i := 1) (listed' := #[true, true, false, false, false, false, false, false]) rfl (by kernel_rfl) (by kernel_rfl) (by kernel_rfl) rfl rfl (o_nilCheck rfl) ?_
              refine ta_pure (i := 2) (listed' := #[true, true, true, false, false, false, false, false]) rfl (by kernel_rfl) (by kernel_rfl) (by kernel_rfl) rfl rfl (o_fieldAddr (o := 0) Try.underlying46 rfl rfl sz41 rfl) ?_
              refine ta_pure (i := 4) (listed' := #[true, true, true, false, true, false, false, false]) rfl (by kernel_rfl) (by kernel_rfl) (by kernel_rfl) rfl rfl (o_move rfl) ?_
              refine ta_two (i := 3) (j := 5) (by kernel_rfl) ?_ ?_
              · skip
                refine oa_v (i := 3) (listed' := #[true, true, true, true, true, false, false, false]) rfl rfl rfl (o_load p41 rfl (by repeat (first | exact has_here | exact has_pt | apply has_left)) rfl) ?_
                refine ta_one (i := 5) (by kernel_rfl) ?_
                refine oa_c (i := 5) (listed' := #[true, true, true, true, true, true, false, false]) rfl rfl rfl (o_call bd29 rfl (CopyInts_f _ a2 c2 keep (by repeat (first | exact hr2 | apply Rd.left)) hkl)) ?_
                rintro u59 _ rfl
                refine ta_eq (A' := F * Words hvs P.held * pt p (cl (pcs d (.slice (some ⟨bs, os, none⟩) P.seen.length cs) (.slice (some ⟨bh, oh, none⟩) P.seen.length ch) (.slice (some ⟨bl, ol, none⟩) P.seen.length cL) (.slice (some ⟨bu, ou, none⟩) P.seen.length cu) (.slice (some ⟨bm, om, none⟩) P.marks.length cm)) 46) * Sl 1 (.slice (some ⟨bs, os, none⟩) P.seen.length cs) P.seen.length (wds P.seen) * Sl 1 (.slice (some ⟨bh, oh, none⟩) P.seen.length ch) P.seen.length hvs * Sl 1 (.slice (some ⟨bl, ol, none⟩) P.seen.length cL) P.seen.length (wds P.last) * Sl 1 (.slice (some ⟨bu, ou, none⟩) P.seen.length cu) P.seen.length (bos P.sure) * Sl 1 (.slice (some ⟨bm, om, none⟩) P.marks.length cm) P.marks.length (ints P.marks) * Sl 1 (.slice (some ⟨b9, o9, none⟩) (8 * P.seen.length) c9) (8 * P.seen.length) (bys (((imgS P.s).drop 0).take (8 * P.seen.length))) * Sl 1 u59 keep.length (ints keep) * Dev d P.s) (by ac_rfl) ?_
                refine ta_have (fun _ _ h => sl_have h.left) fun ⟨a59, c59, hv59, _, _, hr59⟩ => ?_
                subst hv59
                refine ta_one (i := 6) (by kernel_rfl) ?_
                refine oa_c (i := 6) (listed' := #[true, true, true, true, true, true, true, false]) rfl rfl rfl (o_call bd28 rfl (Crash_f _ d c59 P.s a59 keep hr59 hkb hkl)) ?_
                rintro _ _ ⟨rfl, rfl⟩
                refine ta_pure (i := 7) (listed' := #[true, true, true, true, true, true, true, true]) rfl (by kernel_rfl) (by kernel_rfl) (by kernel_rfl) rfl rfl (o_assign rfl) ?_
                refine ta_done (by kernel_rfl) ?_
                exact ⟨a59, c59, rfl, rfl, rfl, by show Value.int .i64 (if P.s.off = true then 5 else if lowB keep = true then 2 else 0) = _; rw [hLv.off, hlow]; rfl, by rw [hLv.off, hlow]; rfl⟩
              · skip
                refine oa_c (i := 5) (listed' := #[true, true, true, false, true, true, false, false]) rfl rfl rfl (o_call bd29 rfl (CopyInts_f _ a2 c2 keep (by repeat (first | exact hr2 | apply Rd.left)) hkl)) ?_
                rintro u59 _ rfl
                refine ta_eq (A' := F * Words hvs P.held * pt p (cl (pcs d (.slice (some ⟨bs, os, none⟩) P.seen.length cs) (.slice (some ⟨bh, oh, none⟩) P.seen.length ch) (.slice (some ⟨bl, ol, none⟩) P.seen.length cL) (.slice (some ⟨bu, ou, none⟩) P.seen.length cu) (.slice (some ⟨bm, om, none⟩) P.marks.length cm)) 46) * Sl 1 (.slice (some ⟨bs, os, none⟩) P.seen.length cs) P.seen.length (wds P.seen) * Sl 1 (.slice (some ⟨bh, oh, none⟩) P.seen.length ch) P.seen.length hvs * Sl 1 (.slice (some ⟨bl, ol, none⟩) P.seen.length cL) P.seen.length (wds P.last) * Sl 1 (.slice (some ⟨bu, ou, none⟩) P.seen.length cu) P.seen.length (bos P.sure) * Sl 1 (.slice (some ⟨bm, om, none⟩) P.marks.length cm) P.marks.length (ints P.marks) * Sl 1 (.slice (some ⟨b9, o9, none⟩) (8 * P.seen.length) c9) (8 * P.seen.length) (bys (((imgS P.s).drop 0).take (8 * P.seen.length))) * Sl 1 u59 keep.length (ints keep) * Dev d P.s) (by ac_rfl) ?_
                refine ta_have (fun _ _ h => sl_have h.left) fun ⟨a59, c59, hv59, _, _, hr59⟩ => ?_
                subst hv59
                refine ta_one (i := 3) (by kernel_rfl) ?_
                refine oa_v (i := 3) (listed' := #[true, true, true, true, true, true, false, false]) rfl rfl rfl (o_load p41 rfl (by repeat (first | exact has_here | exact has_pt | apply has_left)) rfl) ?_
                refine ta_one (i := 6) (by kernel_rfl) ?_
                refine oa_c (i := 6) (listed' := #[true, true, true, true, true, true, true, false]) rfl rfl rfl (o_call bd28 rfl (Crash_f _ d c59 P.s a59 keep hr59 hkb hkl)) ?_
                rintro _ _ ⟨rfl, rfl⟩
                refine ta_pure (i := 7) (listed' := #[true, true, true, true, true, true, true, true]) rfl (by kernel_rfl) (by kernel_rfl) (by kernel_rfl) rfl rfl (o_assign rfl) ?_
                refine ta_done (by kernel_rfl) ?_
                exact ⟨a59, c59, rfl, rfl, rfl, by show Value.int .i64 (if P.s.off = true then 5 else if lowB keep = true then 2 else 0) = _; rw [hLv.off, hlow]; rfl, by rw [hLv.off, hlow]; rfl⟩
            · intro ρ A hI
              obtain ⟨a59, c59, h2, h7, h9, h11, rfl⟩ := hI
              refine q_then_n ?_
              refine tc_env (d := 2) h2 ?_
              refine tc_env (d := 7) h7 ?_
              refine tc_env (d := 9) h9 ?_
              refine tc_env (d := 11) h11 ?_
              refine tc_seq ?_
              refine tc_seq ?_
              refine tc_reg ?_
              refine tl_v rfl (o_move rfl) ?_
              refine tl_c rfl (o_call bd30 rfl (good_f _ a2 c2 keep (by repeat (first | exact hr2 | apply Rd.left)) (by omega))) ?_
              rintro _ _ ⟨rfl, rfl⟩
              refine tl_v rfl (o_not rfl) ?_
              refine tl_nil ?_
              refine q_then_n ?_
              refine tc_cond rfl (fun h => ?_) (fun h => ?_)
              · exfalso; rw [hlow] at h; exact absurd h (by decide)
              · try simp only [decide_eq_true_eq, decide_eq_false_iff_not, Bool.not_eq_true', Bool.not_eq_false', Option.isNone_some, Option.isNone_none, Bool.not_true, Bool.not_false] at h
                refine tc_skip ?_
                refine q_then_n ?_
                refine tc_seq ?_
                refine tc_seq ?_
                refine tc_reg ?_
                refine tl_v rfl (o_move rfl) ?_
                refine tl_v rfl (o_nei rfl rfl) ?_
                refine tl_v rfl (o_move rfl) ?_
                refine tl_bool (d := 76) rfl (fun h => ?_) (fun h => ?_)
                · (exfalso; first | (revert h; simp; done) | (revert h; simp; omega) | (simp at h; omega) | omega)
                · try simp only [decide_eq_true_eq, decide_eq_false_iff_not, Bool.not_eq_true', Bool.not_eq_false', Option.isNone_some, Option.isNone_none, Bool.not_true, Bool.not_false] at h
                  refine tl_v rfl (o_move rfl) ?_
                  refine tl_v rfl (o_nilCheck rfl) ?_
                  refine tl_v rfl (o_fieldAddr (o := 0) Try.underlying46 rfl rfl sz41 rfl) ?_
                  refine tl_v rfl (o_load p41 rfl (by repeat (first | exact has_here | exact has_pt | apply has_left)) rfl) ?_
                  refine tl_c rfl (o_call bd32 rfl (Wake_f _ d (goesS keep P.s))) ?_
                  rintro _ _ ⟨rfl, rfl⟩
                  rw [← hs2]
                  refine tl_v rfl (o_nei rfl rfl) ?_
                  refine tl_v rfl (by first | exact o_pick_t rfl rfl | exact o_pick_f rfl rfl | exact o_pick rfl rfl) ?_
                  refine tl_nil ?_
                  refine q_then_n ?_
                  refine tc_cond rfl (fun h => ?_) (fun h => ?_)
                  · exfalso; simp [goesS] at h
                  · try simp only [decide_eq_true_eq, decide_eq_false_iff_not, Bool.not_eq_true', Bool.not_eq_false', Option.isNone_some, Option.isNone_none, Bool.not_true, Bool.not_false] at h
                    refine tc_skip ?_
                    refine q_then_n ?_
                    refine tc_seq ?_
                    refine tc_reg ?_
                    refine tl_v rfl (o_move rfl) ?_
                    refine tl_v rfl (o_nilCheck rfl) ?_
                    refine tl_v rfl (o_fieldAddr (o := 0) Try.underlying46 rfl rfl sz41 rfl) ?_
                    refine tl_v rfl (o_load p41 rfl (by repeat (first | exact has_here | exact has_pt | apply has_left)) rfl) ?_
                    refine tl_c rfl (o_call bd33 rfl (ImageD_f)) ?_
                    rintro u88 _ ⟨_, rfl, rfl⟩
                    refine tl_have (fun _ _ h => Foc.have_sl1 (k := 1) (n := s2.ls.length * 64) (v := u88) (xs := bys (imgS s2)) (Y := Sl 1 u88 (s2.ls.length * 64) (bys (imgS s2))) (by repeat (first | exact foc_here | apply foc_left)) (by have := hL.len; omega) h) fun ⟨b12, o12, c12, hv12, _, _⟩ => ?_
                    subst hv12
                    have hlen := hL.len
                    have himg : (imgS s2).length = s2.ls.length * 64 := img_length hL.wf.line
                    have himg0 : (imgS P.s).length = P.s.ls.length * 64 := img_length hL.wfp.line
                    refine tl_v rfl (o_assign rfl) ?_
                    refine tl_nil ?_
                    refine q_then_n ?_
                    refine tc_seq ?_
                    refine tc_seq ?_
                    refine tc_reg ?_
                    refine tl_v rfl (o_move rfl) ?_
                    refine tl_v rfl (o_len Try.underlying28 rfl) ?_
                    refine tl_v rfl (o_move rfl) ?_
                    refine tl_v rfl (o_len Try.underlying28 rfl) ?_
                    refine tl_v rfl (o_nei rfl rfl) ?_
                    refine tl_nil ?_
                    refine q_then_n ?_
                    refine tc_cond rfl (fun h => ?_) (fun h => ?_)
                    · (exfalso; first | (revert h; simp; done) | (revert h; simp; omega) | (simp at h; omega) | omega)
                    · try simp only [decide_eq_true_eq, decide_eq_false_iff_not, Bool.not_eq_true', Bool.not_eq_false', Option.isNone_some, Option.isNone_none, Bool.not_true, Bool.not_false] at h
                      refine tc_skip ?_
                      refine q_then_n ?_
                      refine tc_seq ?_
                      refine tc_seq ?_
                      refine tc_reg ?_
                      refine tl_v rfl (o_assign rfl) ?_
                      refine tl_nil ?_
                      refine q_then_n ?_
                      refine tc_block ?_
                      refine tc_loop (fun k ρ A => ∃ i : Nat, i ≤ P.seen.length ∧ k = P.seen.length - i ∧ ρ 7 = .pointer (some ⟨p, 0, none⟩) ∧ ρ 9 = .slice (some ⟨b9, o9, none⟩) (8 * P.seen.length) c9 ∧ ρ 12 = .slice (some ⟨b12, o12, none⟩) (s2.ls.length * 64) c12 ∧ ρ 13 = .int .i64 (i : Nat) ∧ A = F * Words hvs P.held * pt p (cl (pcs d (.slice (some ⟨bs, os, none⟩) P.seen.length cs) (.slice (some ⟨bh, oh, none⟩) P.seen.length ch) (.slice (some ⟨bl, ol, none⟩) P.seen.length cL) (.slice (some ⟨bu, ou, none⟩) P.seen.length cu) (.slice (some ⟨bm, om, none⟩) P.marks.length cm)) 46) * Sl 1 (.slice (some ⟨bs, os, none⟩) P.seen.length cs) P.seen.length (wds P.seen) * Sl 1 (.slice (some ⟨bh, oh, none⟩) P.seen.length ch) P.seen.length hvs * Sl 1 (.slice (some ⟨bl, ol, none⟩) P.seen.length cL) P.seen.length (wds P.last) * Sl 1 (.slice (some ⟨bu, ou, none⟩) P.seen.length cu) P.seen.length (bos P.sure) * Sl 1 (.slice (some ⟨bm, om, none⟩) P.marks.length cm) P.marks.length (ints P.marks) * Sl 1 (.slice (some ⟨b9, o9, none⟩) (8 * P.seen.length) c9) (8 * P.seen.length) (bys (((imgS P.s).drop 0).take (8 * P.seen.length))) * Sl 1 (.slice a59 keep.length c59) keep.length (ints keep) * Dev d s2 * Sl 1 (.slice (some ⟨b12, o12, none⟩) (s2.ls.length * 64) c12) (s2.ls.length * 64) (bys (imgS s2))) (m := P.seen.length) ?_ ?_
                      · exact ⟨0, by omega, rfl, rfl, rfl, rfl, rfl, rfl⟩
                      · intro k ρ B hI
                        obtain ⟨i, hi, rfl, h7, h9, h12, h13, rfl⟩ := hI
                        refine tc_env (d := 7) h7 ?_
                        refine tc_env (d := 9) h9 ?_
                        refine tc_env (d := 12) h12 ?_
                        refine tc_env (d := 13) h13 ?_
                        refine tc_seq ?_
                        refine tc_seq ?_
                        refine tc_reg ?_
                        refine tl_v rfl (o_move rfl) ?_
                        refine tl_v rfl (o_move rfl) ?_
                        refine tl_v rfl (o_nilCheck rfl) ?_
                        refine tl_v rfl (o_fieldAddr (o := 1) Try.underlying46 rfl rfl sz42 rfl) ?_
                        refine tl_v rfl (o_load p42 rfl (by repeat (first | exact has_here | exact has_pt | apply has_left)) rfl) ?_
                        refine tl_v rfl (o_len Try.underlying42 rfl) ?_
                        refine tl_v rfl (o_lss rfl rfl) ?_
                        refine tl_nil ?_
                        refine q_then_n ?_
                        refine tc_cond rfl (fun h => ?_) (fun h => ?_)
                        · simp only [decide_eq_true_eq] at h
                          have hi' : i < P.seen.length := by omega
                          refine tc_have (fun _ _ h => Foc.words (hvs := hvs) (held := P.held) (by repeat (first | exact foc_here | apply foc_left)) (by omega) h) fun hwd => ?_
                          obtain ⟨ai, ci, hvi, hri⟩ := hwd i (by omega)
                          have hheld := hL.held i (by omega)
                          have hhr := hP.hroom _ (List.getElem_mem (show i < P.held.length by omega))
                          have hne : 0 < P.held[i].length := List.length_pos_of_mem hheld
                          obtain ⟨bi, oi, rfl, hci⟩ := hri.some (by rw [wds_length]; omega)
                          refine tc_have (fun _ _ h => Foc.have_sl (k := 1) (n := s2.ls.length * 64) (v := .slice (some ⟨b12, o12, none⟩) (s2.ls.length * 64) c12) (xs := bys (imgS s2)) (Y := Sl 1 (.slice (some ⟨b12, o12, none⟩) (s2.ls.length * 64) c12) (s2.ls.length * 64) (bys (imgS s2))) (by repeat (first | exact foc_here | apply foc_left)) h) fun ⟨a12, c12', hv12, hcl12, _, hr12⟩ => ?_
                          obtain ⟨rfl, _⟩ : a12 = some ⟨b12, o12, none⟩ ∧ c12' = c12 := by
                            simp only [Value.slice.injEq] at hv12; exact ⟨hv12.1.symm, hv12.2.2.symm⟩
                          obtain ⟨_, _, e12, hc12⟩ := hr12.some (by rw [bys_length]; omega)
                          simp only [Option.some.injEq, Addr.mk.injEq] at e12
                          obtain ⟨rfl, rfl, _⟩ := e12
                          refine tc_have (fun _ _ h => Foc.have_sl (k := 1) (n := 8 * P.seen.length) (v := .slice (some ⟨b9, o9, none⟩) (8 * P.seen.length) c9) (xs := bys (((imgS P.s).drop 0).take (8 * P.seen.length))) (Y := Sl 1 (.slice (some ⟨b9, o9, none⟩) (8 * P.seen.length) c9) (8 * P.seen.length) (bys (((imgS P.s).drop 0).take (8 * P.seen.length)))) (by repeat (first | exact foc_here | apply foc_left)) h) fun ⟨a9, c9', hv9, hcl9, _, hr9⟩ => ?_
                          obtain ⟨rfl, _⟩ : a9 = some ⟨b9, o9, none⟩ ∧ c9' = c9 := by
                            simp only [Value.slice.injEq] at hv9; exact ⟨hv9.1.symm, hv9.2.2.symm⟩
                          have hW1 : ((imgS P.s).drop 0).take (8 * P.seen.length) = imgS P.s := by rw [List.drop_zero, List.take_of_length_le (by omega)]
                          have hW1l : (((imgS P.s).drop 0).take (8 * P.seen.length)).length = 8 * P.seen.length := by rw [hW1]; omega
                          obtain ⟨_, _, e9, hc9⟩ := hr9.some (by rw [bys_length]; omega)
                          simp only [Option.some.injEq, Addr.mk.injEq] at e9
                          obtain ⟨rfl, rfl, _⟩ := e9
                          have hb2 : ∀ x ∈ (imgS s2).drop (8 * i), x < 256 := fun x hx => by
                            have := List.mem_of_mem_drop hx
                            simp only [imgS, img, List.mem_flatMap] at this
                            obtain ⟨l, _, hl⟩ := this
                            exact lb_bytes _ x hl
                          have hb1 : ∀ x ∈ (((imgS P.s).drop 0).take (8 * P.seen.length)).drop (8 * i), x < 256 := fun x hx => by
                            have := List.mem_of_mem_drop hx
                            rw [hW1] at this
                            simp only [imgS, img, List.mem_flatMap] at this
                            obtain ⟨l, _, hl⟩ := this
                            exact lb_bytes _ x hl
                          refine tc_skip ?_
                          refine q_then_n ?_
                          refine tc_seq ?_
                          refine tc_block ?_
                          refine tc_seq ?_
                          refine tc_reg ?_
                          refine tl_v rfl (o_move rfl) ?_
                          refine tl_v rfl (o_move rfl) ?_
                          refine tl_v rfl (by first | exact o_mulI rfl rfl (by omega) | exact o_mul rfl rfl) ?_
                          refine tl_v rfl (o_sliceLt (l := 8 * i) (h := s2.ls.length * 64) Try.underlying28 sz5 rfl (bnd_nat (r := 8 * i) rfl) bnd_none (by omega) (by omega) (by omega)) ?_
                          refine tl_c rfl (o_call bd34 rfl (number_f _ (some ⟨b12, o12 + 8 * i * 1, none⟩) (s2.ls.length * 64 - 8 * i) (c12 - 8 * i) ((imgS s2).drop (8 * i)) (by rw [List.length_drop, himg]) hb2 (slR_sub hc12 himg (by omega)) (by omega))) ?_
                          rintro _ _ ⟨rfl, rfl⟩
                          refine tl_v rfl (o_assign rfl) ?_
                          refine tl_nil ?_
                          refine q_then_n ?_
                          refine tc_seq ?_
                          refine tc_reg ?_
                          refine tl_v rfl (o_assign rfl) ?_
                          refine tl_nil ?_
                          refine q_then_n ?_
                          refine tc_seq ?_
                          refine tc_seq ?_
                          refine tc_reg ?_
                          refine tl_v rfl (o_assign rfl) ?_
                          refine tl_nil ?_
                          refine q_then_n ?_
                          refine tc_block ?_
                          refine tc_loop (fun k ρ A => ∃ j : Nat, j ≤ P.held[i].length ∧ k = P.held[i].length - j ∧ ρ 7 = .pointer (some ⟨p, 0, none⟩) ∧ ρ 9 = .slice (some ⟨b9, o9, none⟩) (8 * P.seen.length) c9 ∧ ρ 12 = .slice (some ⟨b12, o12, none⟩) (s2.ls.length * 64) c12 ∧ ρ 13 = .int .i64 (i : Nat) ∧ ρ 14 = .int .u64 ((nm (((imgS s2).drop (8 * i)).take 8) : Nat) : Int) ∧ ρ 16 = .int .i64 (j : Nat) ∧ (∃ bw, ρ 15 = .bool bw ∧ bw = (P.held[i].take j).any fun x => decide (x = nm (((imgS s2).drop (8 * i)).take 8))) ∧ A = F * Words hvs P.held * pt p (cl (pcs d (.slice (some ⟨bs, os, none⟩) P.seen.length cs) (.slice (some ⟨bh, oh, none⟩) P.seen.length ch) (.slice (some ⟨bl, ol, none⟩) P.seen.length cL) (.slice (some ⟨bu, ou, none⟩) P.seen.length cu) (.slice (some ⟨bm, om, none⟩) P.marks.length cm)) 46) * Sl 1 (.slice (some ⟨bs, os, none⟩) P.seen.length cs) P.seen.length (wds P.seen) * Sl 1 (.slice (some ⟨bh, oh, none⟩) P.seen.length ch) P.seen.length hvs * Sl 1 (.slice (some ⟨bl, ol, none⟩) P.seen.length cL) P.seen.length (wds P.last) * Sl 1 (.slice (some ⟨bu, ou, none⟩) P.seen.length cu) P.seen.length (bos P.sure) * Sl 1 (.slice (some ⟨bm, om, none⟩) P.marks.length cm) P.marks.length (ints P.marks) * Sl 1 (.slice (some ⟨b9, o9, none⟩) (8 * P.seen.length) c9) (8 * P.seen.length) (bys (((imgS P.s).drop 0).take (8 * P.seen.length))) * Sl 1 (.slice a59 keep.length c59) keep.length (ints keep) * Dev d s2 * Sl 1 (.slice (some ⟨b12, o12, none⟩) (s2.ls.length * 64) c12) (s2.ls.length * 64) (bys (imgS s2))) (m := P.held[i].length) ?_ ?_
                          · exact ⟨0, by omega, rfl, rfl, rfl, rfl, rfl, rfl, rfl, ⟨false, rfl, rfl⟩, rfl⟩
                          · intro k ρ B hI
                            obtain ⟨j, hj, rfl, h7, h9, h12, h13, h14, h16, ⟨bw, h15, hbw⟩, rfl⟩ := hI
                            refine tc_env (d := 7) h7 ?_
                            refine tc_env (d := 9) h9 ?_
                            refine tc_env (d := 12) h12 ?_
                            refine tc_env (d := 13) h13 ?_
                            refine tc_env (d := 14) h14 ?_
                            refine tc_env (d := 16) h16 ?_
                            refine tc_env (d := 15) h15 ?_
                            refine tc_seq ?_
                            refine tc_seq ?_
                            refine tc_reg ?_
                            refine tl_v rfl (o_move rfl) ?_
                            refine tl_v rfl (o_move rfl) ?_
                            refine tl_v rfl (o_nilCheck rfl) ?_
                            refine tl_v rfl (o_fieldAddr (o := 2) Try.underlying46 rfl rfl sz43 rfl) ?_
                            refine tl_v rfl (o_load p43 rfl (by repeat (first | exact has_here | exact has_pt | apply has_left)) rfl) ?_
                            refine tl_v rfl (o_move rfl) ?_
                            refine tl_v rfl (o_indexAddrN1 (j := i) Try.underlying43 sz42 rfl rfl (by omega)) ?_
                            refine tl_v rfl (o_loadSl (k := 1) (i := i) (v := .slice (some ⟨bi, oi, none⟩) P.held[i].length ci) (xs := hvs) (Y := Sl 1 (.slice (some ⟨bh, oh, none⟩) P.seen.length ch) P.seen.length hvs) p42 rfl (by repeat (first | exact foc_here | apply foc_left)) hvi) ?_
                            refine tl_v rfl (o_len Try.underlying42 rfl) ?_
                            refine tl_v rfl (o_lss rfl rfl) ?_
                            refine tl_nil ?_
                            refine q_then_n ?_
                            refine tc_cond rfl (fun h => ?_) (fun h => ?_)
                            · simp only [decide_eq_true_eq] at h
                              have hj' : j < P.held[i].length := by omega
                              have g1 := hci j _ (wds_at hj')
                              refine tc_skip ?_
                              refine q_then_n ?_
                              refine tc_seq ?_
                              refine tc_block ?_
                              refine tc_reg ?_
                              refine tl_v rfl (o_move rfl) ?_
                              refine tl_v rfl (o_move rfl) ?_
                              refine tl_bool (d := 121) rfl (fun h => ?_) (fun h => ?_)
                              · try simp only [decide_eq_true_eq, decide_eq_false_iff_not, Bool.not_eq_true', Bool.not_eq_false', Option.isNone_some, Option.isNone_none, Bool.not_true, Bool.not_false] at h
                                refine tl_skip rfl ?_
                                refine tl_skip rfl ?_
                                refine tl_skip rfl ?_
                                refine tl_skip rfl ?_
                                refine tl_skip rfl ?_
                                refine tl_skip rfl ?_
                                refine tl_skip rfl ?_
                                refine tl_skip rfl ?_
                                refine tl_skip rfl ?_
                                refine tl_skip rfl ?_
                                refine tl_skip rfl ?_
                                refine tl_skip rfl ?_
                                refine tl_v rfl (by first | exact o_pick_t rfl rfl | exact o_pick_f rfl rfl | exact o_pick rfl rfl) ?_
                                refine tl_v rfl (o_assign rfl) ?_
                                refine tl_nil ?_
                                refine q_block_n (q_then_n ?_)
                                refine tc_reg ?_
                                refine tl_v rfl (o_move rfl) ?_
                                refine tl_v rfl (by first | exact o_addI rfl rfl (by omega) | exact o_add rfl rfl) ?_
                                refine tl_v rfl (o_assign rfl) ?_
                                refine tl_nil ?_
                                refine q_then_n ?_
                                first
                                  | exact ⟨_, by omega, j + 1, by omega, rfl, rfl, rfl, rfl, rfl, rfl, rfl, ⟨true, rfl, by rw [List.take_succ_eq_append_getElem hj', List.any_append, ← hbw, h, Bool.true_or]⟩, rfl⟩
                                  | exact ⟨_, by omega, j + 1, by omega, rfl, rfl, rfl, rfl, rfl, rfl, rfl, ⟨_, rfl, by rw [List.take_succ_eq_append_getElem hj', List.any_append, ← hbw, h, Bool.false_or]; simp only [List.any_cons, List.any_nil, Bool.or_false]; exact decide_eq_decide.2 ⟨fun e => by exact_mod_cast e, fun e => by exact_mod_cast e⟩⟩, rfl⟩
                              · try simp only [decide_eq_true_eq, decide_eq_false_iff_not, Bool.not_eq_true', Bool.not_eq_false', Option.isNone_some, Option.isNone_none, Bool.not_true, Bool.not_false] at h
                                refine tl_v rfl (o_move rfl) ?_
                                refine tl_v rfl (o_nilCheck rfl) ?_
                                refine tl_v rfl (o_fieldAddr (o := 2) Try.underlying46 rfl rfl sz43 rfl) ?_
                                refine tl_v rfl (o_load p43 rfl (by repeat (first | exact has_here | exact has_pt | apply has_left)) rfl) ?_
                                refine tl_v rfl (o_move rfl) ?_
                                refine tl_v rfl (o_indexAddrN1 (j := i) Try.underlying43 sz42 rfl rfl (by omega)) ?_
                                refine tl_v rfl (o_loadSl (k := 1) (i := i) (v := .slice (some ⟨bi, oi, none⟩) P.held[i].length ci) (xs := hvs) (Y := Sl 1 (.slice (some ⟨bh, oh, none⟩) P.seen.length ch) P.seen.length hvs) p42 rfl (by repeat (first | exact foc_here | apply foc_left)) hvi) ?_
                                refine tl_v rfl (o_move rfl) ?_
                                refine tl_v rfl (o_indexAddrN1 (j := j) Try.underlying42 sz53 rfl rfl (by omega)) ?_
                                refine tl_v rfl (o_loadC p53 rfl g1) ?_
                                refine tl_v rfl (o_move rfl) ?_
                                refine tl_v rfl (o_eqi rfl rfl) ?_
                                refine tl_v rfl (by first | exact o_pick_t rfl rfl | exact o_pick_f rfl rfl | exact o_pick rfl rfl) ?_
                                refine tl_v rfl (o_assign rfl) ?_
                                refine tl_nil ?_
                                refine q_block_n (q_then_n ?_)
                                refine tc_reg ?_
                                refine tl_v rfl (o_move rfl) ?_
                                refine tl_v rfl (by first | exact o_addI rfl rfl (by omega) | exact o_add rfl rfl) ?_
                                refine tl_v rfl (o_assign rfl) ?_
                                refine tl_nil ?_
                                refine q_then_n ?_
                                first
                                  | exact ⟨_, by omega, j + 1, by omega, rfl, rfl, rfl, rfl, rfl, rfl, rfl, ⟨true, rfl, by rw [List.take_succ_eq_append_getElem hj', List.any_append, ← hbw, h, Bool.true_or]⟩, rfl⟩
                                  | exact ⟨_, by omega, j + 1, by omega, rfl, rfl, rfl, rfl, rfl, rfl, rfl, ⟨_, rfl, by rw [List.take_succ_eq_append_getElem hj', List.any_append, ← hbw, h, Bool.false_or]; simp only [List.any_cons, List.any_nil, Bool.or_false]; exact decide_eq_decide.2 ⟨fun e => by exact_mod_cast e, fun e => by exact_mod_cast e⟩⟩, rfl⟩
                            · simp only [decide_eq_false_iff_not] at h
                              have hbt : bw = true := by rw [hbw, List.take_of_length_le (by omega), List.any_eq_true]; exact ⟨_, hheld, by simp⟩
                              subst hbt
                              have hsn : nm (((((imgS P.s).drop 0).take (8 * P.seen.length)).drop (8 * i)).take 8) = P.seen[i] := by rw [hW1]; exact hL.seen i hi'
                              refine tc_exit ?_
                              refine q_then_e (q_then_e (q_block_x (q_then_n ?_)))
                              refine tc_seq ?_
                              refine tc_regq mo (by kernel_rfl) ?_
                              refine ql_v rfl (o_move rfl) ?_
                              refine ql_v rfl (o_move rfl) ?_
                              refine ql_v rfl (by first | exact o_mulI rfl rfl (by omega) | exact o_mul rfl rfl) ?_
                              refine ql_v rfl (o_sliceLt (l := 8 * i) (h := 8 * P.seen.length) Try.underlying28 sz5 rfl (bnd_nat (r := 8 * i) rfl) bnd_none (by omega) (by omega) (by omega)) ?_
                              refine ql_c rfl (fun w => exec_call bd34 rfl) (number_f _ (some ⟨b9, o9 + 8 * i * 1, none⟩) (8 * P.seen.length - 8 * i) (c9 - 8 * i) ((((imgS P.s).drop 0).take (8 * P.seen.length)).drop (8 * i)) (by rw [List.length_drop, hW1l]) hb1 (slR_sub hc9 hW1l (by omega)) (by omega)) ?_
                              refine ql_v rfl (o_move rfl) ?_
                              refine ql_v rfl (o_nilCheck rfl) ?_
                              refine ql_v rfl (o_fieldAddr (o := 1) Try.underlying46 rfl rfl sz42 rfl) ?_
                              refine ql_v rfl (o_load p42 rfl (by repeat (first | exact has_here | exact has_pt | apply has_left)) rfl) ?_
                              refine ql_v rfl (o_move rfl) ?_
                              refine ql_v rfl (o_indexAddrN1 (j := i) Try.underlying42 sz53 rfl rfl (by omega)) ?_
                              refine ql_v rfl (o_loadSl (k := 1) (i := i) (xs := wds P.seen) (Y := Sl 1 (.slice (some ⟨bs, os, none⟩) P.seen.length cs) P.seen.length (wds P.seen)) p53 rfl (by repeat (first | exact foc_here | apply foc_left)) (wds_at hi')) ?_
                              refine ql_v rfl (o_nei rfl rfl) ?_
                              refine ql_v rfl (o_move rfl) ?_
                              refine ql_bool (d := 148) rfl (fun h => ?_) (fun h => ?_)
                              · exfalso; rw [hsn] at h; simp at h
                              · try simp only [decide_eq_true_eq, decide_eq_false_iff_not, Bool.not_eq_true', Bool.not_eq_false', Option.isNone_some, Option.isNone_none, Bool.not_true, Bool.not_false] at h
                                refine ql_v rfl (o_move rfl) ?_
                                refine ql_v rfl (o_not rfl) ?_
                                refine ql_v rfl (by first | exact o_pick_t rfl rfl | exact o_pick_f rfl rfl | exact o_pick rfl rfl) ?_
                                refine ql_v rfl (o_move rfl) ?_
                                refine ql_bool (d := 152) rfl (fun h => ?_) (fun h => ?_)
                                · (exfalso; first | (revert h; simp; done) | (revert h; simp; omega) | (simp at h; omega) | omega)
                                · try simp only [decide_eq_true_eq, decide_eq_false_iff_not, Bool.not_eq_true', Bool.not_eq_false', Option.isNone_some, Option.isNone_none, Bool.not_true, Bool.not_false] at h
                                  refine ql_v rfl (o_move rfl) ?_
                                  refine ql_v rfl (o_nilCheck rfl) ?_
                                  refine ql_v rfl (o_fieldAddr (o := 4) Try.underlying46 rfl rfl sz44 rfl) ?_
                                  refine ql_v rfl (o_load p44 rfl (by repeat (first | exact has_here | exact has_pt | apply has_left)) rfl) ?_
                                  refine ql_v rfl (o_move rfl) ?_
                                  refine ql_v rfl (o_indexAddrN1 (j := i) Try.underlying44 sz4 rfl rfl (by omega)) ?_
                                  refine ql_v rfl (o_loadSl (k := 1) (i := i) (xs := bos P.sure) (Y := Sl 1 (.slice (some ⟨bu, ou, none⟩) P.seen.length cu) P.seen.length (bos P.sure)) p4 rfl (by repeat (first | exact foc_here | apply foc_left)) (bos_at (by omega))) ?_
                                  refine ql_v rfl (o_move rfl) ?_
                                  refine ql_bool (d := 160) rfl (fun h => ?_) (fun h => ?_)
                                  · have hlst := hL.last i (by omega) (by omega) h
                                    refine ql_v rfl (o_move rfl) ?_
                                    refine ql_v rfl (o_move rfl) ?_
                                    refine ql_v rfl (o_nilCheck rfl) ?_
                                    refine ql_v rfl (o_fieldAddr (o := 3) Try.underlying46 rfl rfl sz42 rfl) ?_
                                    refine ql_v rfl (o_load p42 rfl (by repeat (first | exact has_here | exact has_pt | apply has_left)) rfl) ?_
                                    refine ql_v rfl (o_move rfl) ?_
                                    refine ql_v rfl (o_indexAddrN1 (j := i) Try.underlying42 sz53 rfl rfl (by omega)) ?_
                                    refine ql_v rfl (o_loadSl (k := 1) (i := i) (xs := wds P.last) (Y := Sl 1 (.slice (some ⟨bl, ol, none⟩) P.seen.length cL) P.seen.length (wds P.last)) p53 rfl (by repeat (first | exact foc_here | apply foc_left)) (wds_at (by omega))) ?_
                                    refine ql_v rfl (o_nei rfl rfl) ?_
                                    refine ql_v rfl (by first | exact o_pick_t rfl rfl | exact o_pick_f rfl rfl | exact o_pick rfl rfl) ?_
                                    refine ql_v rfl (by first | exact o_pick_t rfl rfl | exact o_pick_f rfl rfl | exact o_pick rfl rfl) ?_
                                    refine ql_nil ?_
                                    refine q_then_n ?_
                                    refine tc_cond rfl (fun h => ?_) (fun h => ?_)
                                    · exfalso; first | (simp [hlst] at h; done) | (simp at h; done)
                                    · try simp only [decide_eq_true_eq, decide_eq_false_iff_not, Bool.not_eq_true', Bool.not_eq_false', Option.isNone_some, Option.isNone_none, Bool.not_true, Bool.not_false] at h
                                      refine tc_skip ?_
                                      refine q_block_n (q_then_n ?_)
                                      refine tc_reg ?_
                                      refine tl_v rfl (o_move rfl) ?_
                                      refine tl_v rfl (by first | exact o_addI rfl rfl (by omega) | exact o_add rfl rfl) ?_
                                      refine tl_v rfl (o_assign rfl) ?_
                                      refine tl_nil ?_
                                      refine q_then_n ?_
                                      exact ⟨_, by omega, i + 1, by omega, rfl, rfl, rfl, rfl, rfl, rfl⟩
                                  · try simp only [decide_eq_true_eq, decide_eq_false_iff_not, Bool.not_eq_true', Bool.not_eq_false', Option.isNone_some, Option.isNone_none, Bool.not_true, Bool.not_false] at h
                                    refine ql_skip rfl ?_
                                    refine ql_skip rfl ?_
                                    refine ql_skip rfl ?_
                                    refine ql_skip rfl ?_
                                    refine ql_skip rfl ?_
                                    refine ql_skip rfl ?_
                                    refine ql_skip rfl ?_
                                    refine ql_skip rfl ?_
                                    refine ql_skip rfl ?_
                                    refine ql_v rfl (by first | exact o_pick_t rfl rfl | exact o_pick_f rfl rfl | exact o_pick rfl rfl) ?_
                                    refine ql_v rfl (by first | exact o_pick_t rfl rfl | exact o_pick_f rfl rfl | exact o_pick rfl rfl) ?_
                                    refine ql_nil ?_
                                    refine q_then_n ?_
                                    refine tc_cond_f rfl ?_
                                    refine tc_skip ?_
                                    refine q_block_n (q_then_n ?_)
                                    refine tc_reg ?_
                                    refine tl_v rfl (o_move rfl) ?_
                                    refine tl_v rfl (by first | exact o_addI rfl rfl (by omega) | exact o_add rfl rfl) ?_
                                    refine tl_v rfl (o_assign rfl) ?_
                                    refine tl_nil ?_
                                    refine q_then_n ?_
                                    exact ⟨_, by omega, i + 1, by omega, rfl, rfl, rfl, rfl, rfl, rfl⟩
                        · try simp only [decide_eq_true_eq, decide_eq_false_iff_not, Bool.not_eq_true', Bool.not_eq_false', Option.isNone_some, Option.isNone_none, Bool.not_true, Bool.not_false] at h
                          refine tc_exit ?_
                          refine q_then_e (q_then_e (q_block_x (q_then_n ?_)))
                          refine tc_seq ?_
                          refine tc_reg ?_
                          refine tl_v rfl (o_assign rfl) ?_
                          refine tl_nil ?_
                          refine q_then_n ?_
                          refine tc_ret ?_
                          exact ⟨.bool true, _, res1 rfl rfl, fun _ _ h => h.left.left.left.left.left.left.left.left.left.left.left, rfl, rfl⟩

end Go.Vl

/- vellumlaw08: PmemLasts, walked. Conditions: none. -/
import Derived.Test.YtimckjnnjakcoaaL8f
set_option linter.unusedVariables false
set_option linter.unusedSimpArgs false
namespace Go.Vl
open Go Go.Proofs


theorem Foc.words {A A' : SP} {hvs : List Value} {held : List (List Nat)} (h : Foc A (Words hvs held) (Words hvs held) A') (hl : hvs.length = held.length) {g : Gh} {w : World} (hs : sat g w A) :
    ∀ i (hi : i < held.length), ∃ a c, hvs[i]? = some (.slice a held[i].length c) ∧ Rd A a (wds held[i]) := fun i hi => by
  obtain ⟨R, hA, _⟩ := h
  obtain ⟨S, h1, _⟩ := words_get hl hi
  rw [h1, ← star_assoc] at hA
  obtain ⟨a, c, e, _, _, hr⟩ := sl_have' hA hs
  exact ⟨a, c, by rw [List.getElem?_eq_getElem (by omega), e], hr⟩
theorem slR_sub {A : SP} {b o n j : Nat} {xs : List Nat} (h : Cells A b o (bys xs)) (hl : xs.length = n) (hj : j ≤ n) : Rd A (some ⟨b, o + j * 1, none⟩) (bys (xs.drop j)) := by
  refine rd_cells (h.sub (j * 1) (n - j) ?_)
  unfold bys
  rw [Nat.mul_one, List.map_drop, List.take_of_length_le]
  rw [List.length_drop, List.length_map]; omega
/-- What PmemLasts looks at, of a book and a device behind a loss of power. -/
structure Lasts (P : PlS) (s2 : DevS) : Prop where
  len : s2.ls.length = P.marks.length
  wf : WfD s2
  wfp : WfD P.s
  seen : ∀ i (h : i < P.seen.length), nm (((imgS P.s).drop (8 * i)).take 8) = P.seen[i]
  held : ∀ i (h : i < P.held.length), nm (((imgS s2).drop (8 * i)).take 8) ∈ P.held[i]
  last : ∀ i (h : i < P.sure.length) (h' : i < P.last.length), P.sure[i] = true → nm (((imgS s2).drop (8 * i)).take 8) = P.last[i]

set_option maxRecDepth 20000 in
set_option maxHeartbeats 2000000 in
theorem PmemLastsBad_f (F : SP) (lines : Int) (a a2 : Option Addr) (c c2 n : Nat) (ss : List StepC) (keep : List Int) (P : PlS) (hn : n = 1 + wi lines 4) (hPd : P = playL ss (begS n)) (hr : Rd F a (scs ss)) (hr2 : Rd F a2 (ints keep)) (hss : ∀ t ∈ ss, t.v < 18446744073709551616) (hl : ss.length + 16 ≤ 2199023255552) (hkl : keep.length ≤ 17592186044416) (hkb : ∀ k ∈ keep, k ≤ 9223372036854775807) (hlow : lowB keep = true) :
    Fn Try.prog 4 #[.int .i64 lines, .slice a ss.length c, .slice a2 keep.length c2] (F) (fun r B => r = .bool true ∧ B = F) := by
  have hE := @fn_enterW Try.prog 4 Try.f4 _ [.int .i64 lines, .slice a ss.length c, .slice a2 keep.length c2] (F) (fun r B => r = .bool true ∧ B = F) _ Try.func4 rfl Try.ntmps4 (by simp)
  refine hE ?_
  clear hE
  have hwi := wi_lt (p := lines) (show 0 < 4 by omega)
  have hn0 : 0 < n := by omega
  have hn4 : n ≤ 4 := by omega
  refine tc_seq ?_
  refine tc_reg ?_
  refine tl_v rfl (o_assign rfl) ?_
  refine tl_nil ?_
  refine q_then_n ?_
  refine tc_seq ?_
  refine tc_seq ?_
  refine tc_reg ?_
  refine tl_c rfl (o_call bd25 rfl ((awake_f F).mono (Q' := fun r B => r = .bool true ∧ F = B) fun _ _ h => ⟨h.1, h.2.symm⟩)) ?_
  rintro _ _ ⟨rfl, rfl⟩
  refine tl_v rfl (o_not rfl) ?_
  refine tl_nil ?_
  refine q_then_n ?_
  refine tc_cond rfl (fun h => ?_) (fun h => ?_)
  · (exfalso; first | (revert h; simp; done) | (revert h; simp; omega) | (simp at h; omega) | omega)
  · try simp only [decide_eq_true_eq, decide_eq_false_iff_not, Bool.not_eq_true', Bool.not_eq_false', Option.isNone_some, Option.isNone_none, Bool.not_true, Bool.not_false] at h
    refine tc_skip ?_
    refine q_then_n ?_
    refine tc_seq ?_
    refine tc_reg ?_
    refine tl_v rfl (o_move rfl) ?_
    refine tl_v rfl (o_move rfl) ?_
    refine tl_c rfl (o_call bd26 rfl (begun_f F lines a c n ss hn hr hss hl)) ?_
    rintro u22 _ ⟨p, d, sv, hv, lv, uv, mv, hvs, rfl, rfl⟩
    obtain ⟨hP, hLv⟩ := playL_ok ss (r := 1) (P := begS n) (begS_wf (by omega) (by omega) (by omega)) (begS_live n)
    rw [← hPd] at hP hLv ⊢
    clear hPd
    have hw0 : 0 < P.seen.length := by have := hP.seen; have := hP.pos; omega
    have hseen := hP.seen
    have htop := hP.top
    have hpos := hP.pos
    have hlastl := hP.last
    have hsurel := hP.sure
    have hheldl := hP.held
    have hlsl := hP.ls
    refine tl_eq plC_eq ?_
    refine tl_have (fun _ _ h => Foc.have_sl1 (k := 1) (n := P.seen.length) (v := sv) (xs := wds P.seen) (Y := Sl 1 sv P.seen.length (wds P.seen)) (by repeat (first | exact foc_here | apply foc_left)) (by omega) h) fun ⟨bs, os, cs, hsv, _, _⟩ => ?_
    refine tl_have (fun _ _ h => Foc.have_sl1 (k := 1) (n := P.seen.length) (v := hv) (xs := hvs) (Y := Sl 1 hv P.seen.length hvs) (by repeat (first | exact foc_here | apply foc_left)) (by omega) h) fun ⟨bh, oh, ch, hhv, _, hvl⟩ => ?_
    refine tl_have (fun _ _ h => Foc.have_sl1 (k := 1) (n := P.seen.length) (v := lv) (xs := wds P.last) (Y := Sl 1 lv P.seen.length (wds P.last)) (by repeat (first | exact foc_here | apply foc_left)) (by omega) h) fun ⟨bl, ol, cL, hlv, _, _⟩ => ?_
    refine tl_have (fun _ _ h => Foc.have_sl1 (k := 1) (n := P.seen.length) (v := uv) (xs := bos P.sure) (Y := Sl 1 uv P.seen.length (bos P.sure)) (by repeat (first | exact foc_here | apply foc_left)) (by omega) h) fun ⟨bu, ou, cu, huv, _, _⟩ => ?_
    refine tl_have (fun _ _ h => Foc.have_sl1 (k := 1) (n := P.marks.length) (v := mv) (xs := ints P.marks) (Y := Sl 1 mv P.marks.length (ints P.marks)) (by repeat (first | exact foc_here | apply foc_left)) (by omega) h) fun ⟨bm, om, cm, hmv, _, _⟩ => ?_
    subst hsv hhv hlv huv hmv
    refine tl_v rfl (o_move rfl) ?_
    refine tl_v rfl (o_extract rfl rfl) ?_
    refine tl_v rfl (o_extract rfl rfl) ?_
    refine tl_v rfl (o_assign rfl) ?_
    refine tl_v rfl (o_assign rfl) ?_
    refine tl_nil ?_
    refine q_then_n ?_
    refine tc_seq ?_
    refine tc_seq ?_
    refine tc_reg ?_
    refine tl_v rfl (o_move rfl) ?_
    refine tl_v rfl (o_not rfl) ?_
    refine tl_nil ?_
    refine q_then_n ?_
    refine tc_cond rfl (fun h => ?_) (fun h => ?_)
    · (exfalso; first | (revert h; simp; done) | (revert h; simp; omega) | (simp at h; omega) | omega)
    · try simp only [decide_eq_true_eq, decide_eq_false_iff_not, Bool.not_eq_true', Bool.not_eq_false', Option.isNone_some, Option.isNone_none, Bool.not_true, Bool.not_false] at h
      refine tc_skip ?_
      refine q_then_n ?_
      refine tc_seq ?_
      refine tc_cut (fun ρ A => ∃ b9 o9 c9, ρ 2 = .slice a2 keep.length c2 ∧ ρ 7 = .pointer (some ⟨p, 0, none⟩) ∧ ρ 9 = .slice (some ⟨b9, o9, none⟩) (8 * P.seen.length) c9 ∧ ρ 10 = .int .i64 0 ∧ A = F * Words hvs P.held * pt p (cl (pcs d (.slice (some ⟨bs, os, none⟩) P.seen.length cs) (.slice (some ⟨bh, oh, none⟩) P.seen.length ch) (.slice (some ⟨bl, ol, none⟩) P.seen.length cL) (.slice (some ⟨bu, ou, none⟩) P.seen.length cu) (.slice (some ⟨bm, om, none⟩) P.marks.length cm)) 46) * Sl 1 (.slice (some ⟨bs, os, none⟩) P.seen.length cs) P.seen.length (wds P.seen) * Sl 1 (.slice (some ⟨bh, oh, none⟩) P.seen.length ch) P.seen.length hvs * Sl 1 (.slice (some ⟨bl, ol, none⟩) P.seen.length cL) P.seen.length (wds P.last) * Sl 1 (.slice (some ⟨bu, ou, none⟩) P.seen.length cu) P.seen.length (bos P.sure) * Sl 1 (.slice (some ⟨bm, om, none⟩) P.marks.length cm) P.marks.length (ints P.marks) * Dev d P.s * Sl 1 (.slice (some ⟨b9, o9, none⟩) (8 * P.seen.length) c9) (8 * P.seen.length) (bys (((imgS P.s).drop 0).take (8 * P.seen.length)))) ?_ ?_
      · skip
        refine tc_rega mo ?_
        show TA _ _ _ _ 16 #[false, false, false, false, false, false, false, false, false, false, false, false, false, false, false, false] _ _
        refine ta_pure (i := 0) (listed' := #[true, false, false, false, false, false, false, false, false, false, false, false, false, false, false, false]) rfl (by kernel_rfl) (by kernel_rfl) (by kernel_rfl) rfl rfl (o_move rfl) ?_
        refine ta_pure (i := 1) (listed' := #[true, true, false, false, false, false, false, false, false, false, false, false, false, false, false, false]) rfl (by kernel_rfl) (by kernel_rfl) (by kernel_rfl) rfl rfl (o_nilCheck rfl) ?_
        refine ta_pure (i := 2) (listed' := #[true, true, true, false, false, false, false, false, false, false, false, false, false, false, false, false]) rfl (by kernel_rfl) (by kernel_rfl) (by kernel_rfl) rfl rfl (o_fieldAddr (o := 0) Try.underlying46 rfl rfl sz41 rfl) ?_
        refine ta_pure (i := 4) (listed' := #[true, true, true, false, true, false, false, false, false, false, false, false, false, false, false, false]) rfl (by kernel_rfl) (by kernel_rfl) (by kernel_rfl) rfl rfl (o_move rfl) ?_
        refine ta_pure (i := 5) (listed' := #[true, true, true, false, true, true, false, false, false, false, false, false, false, false, false, false]) rfl (by kernel_rfl) (by kernel_rfl) (by kernel_rfl) rfl rfl (o_nilCheck rfl) ?_
        refine ta_pure (i := 6) (listed' := #[true, true, true, false, true, true, true, false, false, false, false, false, false, false, false, false]) rfl (by kernel_rfl) (by kernel_rfl) (by kernel_rfl) rfl rfl (o_fieldAddr (o := 1) Try.underlying46 rfl rfl sz42 rfl) ?_
        refine ta_two (i := 3) (j := 7) (by kernel_rfl) ?_ ?_
        · skip
          refine oa_v (i := 3) (listed' := #[true, true, true, true, true, true, true, false, false, false, false, false, false, false, false, false]) rfl rfl rfl (o_load p41 rfl (by repeat (first | exact has_here | exact has_pt | apply has_left)) rfl) ?_
          refine ta_one (i := 7) (by kernel_rfl) ?_
          refine oa_v (i := 7) (listed' := #[true, true, true, true, true, true, true, true, false, false, false, false, false, false, false, false]) rfl rfl rfl (o_load p42 rfl (by repeat (first | exact has_here | exact has_pt | apply has_left)) rfl) ?_
          refine ta_pure (i := 8) (listed' := #[true, true, true, true, true, true, true, true, true, false, false, false, false, false, false, false]) rfl (by kernel_rfl) (by kernel_rfl) (by kernel_rfl) rfl rfl (o_len Try.underlying42 rfl) ?_
          refine ta_pure (i := 9) (listed' := #[true, true, true, true, true, true, true, true, true, true, false, false, false, false, false, false]) rfl (by kernel_rfl) (by kernel_rfl) (by kernel_rfl) rfl rfl (by first | exact o_mulI rfl rfl (by omega) | exact o_mul rfl rfl) ?_
          refine ta_one (i := 10) (by kernel_rfl) ?_
          refine oa_c (i := 10) (listed' := #[true, true, true, true, true, true, true, true, true, true, true, false, false, false, false, false]) rfl rfl rfl (o_call bd27 rfl (LoadD_f (p := 0) (m := 8 * P.seen.length) (W := ((imgS P.s).drop 0).take (8 * P.seen.length)) hLv.off (by omega) rfl)) ?_
          rintro u38 _ ⟨_, rfl, u9, rfl, rfl⟩
          refine ta_have (fun _ _ h => Foc.have_sl1 (k := 1) (n := 8 * P.seen.length) (v := u9) (xs := bys (((imgS P.s).drop 0).take (8 * P.seen.length))) (Y := Sl 1 u9 (8 * P.seen.length) (bys (((imgS P.s).drop 0).take (8 * P.seen.length)))) (by repeat (first | exact foc_here | apply foc_left)) (by omega) h) fun ⟨b9, o9, c9, hv9, _, _⟩ => ?_
          subst hv9
          refine ta_pure (i := 11) (listed' := #[true, true, true, true, true, true, true, true, true, true, true, true, false, false, false, false]) rfl (by kernel_rfl) (by kernel_rfl) (by kernel_rfl) rfl rfl (o_move rfl) ?_
          refine ta_pure (i := 12) (listed' := #[true, true, true, true, true, true, true, true, true, true, true, true, true, false, false, false]) rfl (by kernel_rfl) (by kernel_rfl) (by kernel_rfl) rfl rfl (o_extract rfl rfl) ?_
          refine ta_pure (i := 13) (listed' := #[true, true, true, true, true, true, true, true, true, true, true, true, true, true, false, false]) rfl (by kernel_rfl) (by kernel_rfl) (by kernel_rfl) rfl rfl (o_extract rfl rfl) ?_
          refine ta_pure (i := 14) (listed' := #[true, true, true, true, true, true, true, true, true, true, true, true, true, true, true, false]) rfl (by kernel_rfl) (by kernel_rfl) (by kernel_rfl) rfl rfl (o_assign rfl) ?_
          refine ta_pure (i := 15) (listed' := #[true, true, true, true, true, true, true, true, true, true, true, true, true, true, true, true]) rfl (by kernel_rfl) (by kernel_rfl) (by kernel_rfl) rfl rfl (o_assign rfl) ?_
          refine ta_done (by kernel_rfl) ?_
          exact ⟨b9, o9, c9, rfl, rfl, rfl, rfl, rfl⟩
        · skip
          refine oa_v (i := 7) (listed' := #[true, true, true, false, true, true, true, true, false, false, false, false, false, false, false, false]) rfl rfl rfl (o_load p42 rfl (by repeat (first | exact has_here | exact has_pt | apply has_left)) rfl) ?_
          refine ta_pure (i := 8) (listed' := #[true, true, true, false, true, true, true, true, true, false, false, false, false, false, false, false]) rfl (by kernel_rfl) (by kernel_rfl) (by kernel_rfl) rfl rfl (o_len Try.underlying42 rfl) ?_
          refine ta_pure (i := 9) (listed' := #[true, true, true, false, true, true, true, true, true, true, false, false, false, false, false, false]) rfl (by kernel_rfl) (by kernel_rfl) (by kernel_rfl) rfl rfl (by first | exact o_mulI rfl rfl (by omega) | exact o_mul rfl rfl) ?_
          refine ta_one (i := 3) (by kernel_rfl) ?_
          refine oa_v (i := 3) (listed' := #[true, true, true, true, true, true, true, true, true, true, false, false, false, false, false, false]) rfl rfl rfl (o_load p41 rfl (by repeat (first | exact has_here | exact has_pt | apply has_left)) rfl) ?_
          refine ta_one (i := 10) (by kernel_rfl) ?_
          refine oa_c (i := 10) (listed' := #[true, true, true, true, true, true, true, true, true, true, true, false, false, false, false, false]) rfl rfl rfl (o_call bd27 rfl (LoadD_f (p := 0) (m := 8 * P.seen.length) (W := ((imgS P.s).drop 0).take (8 * P.seen.length)) hLv.off (by omega) rfl)) ?_
          rintro u38 _ ⟨_, rfl, u9, rfl, rfl⟩
          refine ta_have (fun _ _ h => Foc.have_sl1 (k := 1) (n := 8 * P.seen.length) (v := u9) (xs := bys (((imgS P.s).drop 0).take (8 * P.seen.length))) (Y := Sl 1 u9 (8 * P.seen.length) (bys (((imgS P.s).drop 0).take (8 * P.seen.length)))) (by repeat (first | exact foc_here | apply foc_left)) (by omega) h) fun ⟨b9, o9, c9, hv9, _, _⟩ => ?_
          subst hv9
          refine ta_pure (i := 11) (listed' := #[true, true, true, true, true, true, true, true, true, true, true, true, false, false, false, false]) rfl (by kernel_rfl) (by kernel_rfl) (by kernel_rfl) rfl rfl (o_move rfl) ?_
          refine ta_pure (i := 12) (listed' := #[true, true, true, true, true, true, true, true, true, true, true, true, true, false, false, false]) rfl (by kernel_rfl) (by kernel_rfl) (by kernel_rfl) rfl rfl (o_extract rfl rfl) ?_
          refine ta_pure (i := 13) (listed' := #[true, true, true, true, true, true, true, true, true, true, true, true, true, true, false, false]) rfl (by kernel_rfl) (by kernel_rfl) (by kernel_rfl) rfl rfl (o_extract rfl rfl) ?_
          refine ta_pure (i := 14) (listed' := #[true, true, true, true, true, true, true, true, true, true, true, true, true, true, true, false]) rfl (by kernel_rfl) (by kernel_rfl) (by kernel_rfl) rfl rfl (o_assign rfl) ?_
          refine ta_pure (i := 15) (listed' := #[true, true, true, true, true, true, true, true, true, true, true, true, true, true, true, true]) rfl (by kernel_rfl) (by kernel_rfl) (by kernel_rfl) rfl rfl (o_assign rfl) ?_
          refine ta_done (by kernel_rfl) ?_
          exact ⟨b9, o9, c9, rfl, rfl, rfl, rfl, rfl⟩
      · intro ρ A hI
        obtain ⟨b9, o9, c9, h2, h7, h9, h10, rfl⟩ := hI
        refine q_then_n ?_
        refine tc_env (d := 2) h2 ?_
        refine tc_env (d := 7) h7 ?_
        refine tc_env (d := 9) h9 ?_
        refine tc_env (d := 10) h10 ?_
        refine tc_seq ?_
        refine tc_seq ?_
        refine tc_reg ?_
        refine tl_v rfl (o_move rfl) ?_
        refine tl_v rfl (o_nei rfl rfl) ?_
        refine tl_v rfl (o_move rfl) ?_
        refine tl_bool (d := 43) rfl (fun h => ?_) (fun h => ?_)
        · (exfalso; first | (revert h; simp; done) | (revert h; simp; omega) | (simp at h; omega) | omega)
        · try simp only [decide_eq_true_eq, decide_eq_false_iff_not, Bool.not_eq_true', Bool.not_eq_false', Option.isNone_some, Option.isNone_none, Bool.not_true, Bool.not_false] at h
          refine tl_v rfl (o_move rfl) ?_
          refine tl_v rfl (o_len Try.underlying28 rfl) ?_
          refine tl_v rfl (o_move rfl) ?_
          refine tl_v rfl (o_nilCheck rfl) ?_
          refine tl_v rfl (o_fieldAddr (o := 1) Try.underlying46 rfl rfl sz42 rfl) ?_
          refine tl_v rfl (o_load p42 rfl (by repeat (first | exact has_here | exact has_pt | apply has_left)) rfl) ?_
          refine tl_v rfl (o_len Try.underlying42 rfl) ?_
          refine tl_v rfl (by first | exact o_mulI rfl rfl (by omega) | exact o_mul rfl rfl) ?_
          refine tl_v rfl (o_nei rfl rfl) ?_
          refine tl_v rfl (by first | exact o_pick_t rfl rfl | exact o_pick_f rfl rfl | exact o_pick rfl rfl) ?_
          refine tl_nil ?_
          refine q_then_n ?_
          refine tc_cond rfl (fun h => ?_) (fun h => ?_)
          · (exfalso; first | (revert h; simp; done) | (revert h; simp; omega) | (simp at h; omega) | omega)
          · try simp only [decide_eq_true_eq, decide_eq_false_iff_not, Bool.not_eq_true', Bool.not_eq_false', Option.isNone_some, Option.isNone_none, Bool.not_true, Bool.not_false] at h
            refine tc_skip ?_
            refine q_then_n ?_
            refine tc_seq ?_
            refine tc_cut (fun ρ A => ∃ a59 c59, ρ 2 = .slice a2 keep.length c2 ∧ ρ 7 = .pointer (some ⟨p, 0, none⟩) ∧ ρ 11 = .int .i64 2 ∧ A = F * Words hvs P.held * pt p (cl (pcs d (.slice (some ⟨bs, os, none⟩) P.seen.length cs) (.slice (some ⟨bh, oh, none⟩) P.seen.length ch) (.slice (some ⟨bl, ol, none⟩) P.seen.length cL) (.slice (some ⟨bu, ou, none⟩) P.seen.length cu) (.slice (some ⟨bm, om, none⟩) P.marks.length cm)) 46) * Sl 1 (.slice (some ⟨bs, os, none⟩) P.seen.length cs) P.seen.length (wds P.seen) * Sl 1 (.slice (some ⟨bh, oh, none⟩) P.seen.length ch) P.seen.length hvs * Sl 1 (.slice (some ⟨bl, ol, none⟩) P.seen.length cL) P.seen.length (wds P.last) * Sl 1 (.slice (some ⟨bu, ou, none⟩) P.seen.length cu) P.seen.length (bos P.sure) * Sl 1 (.slice (some ⟨bm, om, none⟩) P.marks.length cm) P.marks.length (ints P.marks) * Sl 1 (.slice (some ⟨b9, o9, none⟩) (8 * P.seen.length) c9) (8 * P.seen.length) (bys (((imgS P.s).drop 0).take (8 * P.seen.length))) * Sl 1 (.slice a59 keep.length c59) keep.length (ints keep) * Dev d P.s) ?_ ?_
            · skip
              refine tc_rega mo ?_
              show TA _ _ _ _ 8 #[false, false, false, false, false, false, false, false] _ _
              refine ta_pure (i := 0) (listed' := #[true, false, false, false, false, false, false, false]) rfl (by kernel_rfl) (by kernel_rfl) (by kernel_rfl) rfl rfl (o_move rfl) ?_
              refine ta_pure (i := 1) (listed' := #[true, true, false, false, false, false, false, false]) rfl (by kernel_rfl) (by kernel_rfl) (by kernel_rfl) rfl rfl (o_nilCheck rfl) ?_
              refine ta_pure (i := 2) (listed' := #[true, true, true, false, false, false, false, false]) rfl (by kernel_rfl) (by kernel_rfl) (by kernel_rfl) rfl rfl (o_fieldAddr (o := 0) Try.underlying46 rfl rfl sz41 rfl) ?_
              refine ta_pure (i := 4) (listed' := #[true, true, true, false, true, false, false, false]) rfl (by kernel_rfl) (by kernel_rfl) (by kernel_rfl) rfl rfl (o_move rfl) ?_
              refine ta_two (i := 3) (j := 5) (by kernel_rfl) ?_ ?_
              · skip
                refine oa_v (i := 3) (listed' := #[true, true, true, true, true, false, false, false]) rfl rfl rfl (o_load p41 rfl (by repeat (first | exact has_here | exact has_pt | apply has_left)) rfl) ?_
                refine ta_one (i := 5) (by kernel_rfl) ?_
                refine oa_c (i := 5) (listed' := #[true, true, true, true, true, true, false, false]) rfl rfl rfl (o_call bd29 rfl (CopyInts_f _ a2 c2 keep (by repeat (first | exact hr2 | apply Rd.left)) hkl)) ?_
                rintro u59 _ rfl
                refine ta_eq (A' := F * Words hvs P.held * pt p (cl (pcs d (.slice (some ⟨bs, os, none⟩) P.seen.length cs) (.slice (some ⟨bh, oh, none⟩) P.seen.length ch) (.slice (some ⟨bl, ol, none⟩) P.seen.length cL) (.slice (some ⟨bu, ou, none⟩) P.seen.length cu) (.slice (some ⟨bm, om, none⟩) P.marks.length cm)) 46) * Sl 1 (.slice (some ⟨bs, os, none⟩) P.seen.length cs) P.seen.length (wds P.seen) * Sl 1 (.slice (some ⟨bh, oh, none⟩) P.seen.length ch) P.seen.length hvs * Sl 1 (.slice (some ⟨bl, ol, none⟩) P.seen.length cL) P.seen.length (wds P.last) * Sl 1 (.slice (some ⟨bu, ou, none⟩) P.seen.length cu) P.seen.length (bos P.sure) * Sl 1 (.slice (some ⟨bm, om, none⟩) P.marks.length cm) P.marks.length (ints P.marks) * Sl 1 (.slice (some ⟨b9, o9, none⟩) (8 * P.seen.length) c9) (8 * P.seen.length) (bys (((imgS P.s).drop 0).take (8 * P.seen.length))) * Sl 1 u59 keep.length (ints keep) * Dev d P.s) (by ac_rfl) ?_
                refine ta_have (fun _ _ h => sl_have h.left) fun ⟨a59, c59, hv59, _, _, hr59⟩ => ?_
                subst hv59
                refine ta_one (i := 6) (by kernel_rfl) ?_
                refine oa_c (i := 6) (listed' := #[true, true, true, true, true, true, true, false]) rfl rfl rfl (o_call bd28 rfl (Crash_f _ d c59 P.s a59 keep hr59 hkb hkl)) ?_
                rintro _ _ ⟨rfl, rfl⟩
                refine ta_pure (i := 7) (listed' := #[true, true, true, true, true, true, true, true]) rfl (by kernel_rfl) (by kernel_rfl) (by kernel_rfl) rfl rfl (o_assign rfl) ?_
                refine ta_done (by kernel_rfl) ?_
                exact ⟨a59, c59, rfl, rfl, by show Value.int .i64 (if P.s.off = true then 5 else if lowB keep = true then 2 else 0) = _; rw [hLv.off, hlow]; rfl, by rw [hLv.off, hlow]; rfl⟩
              · skip
                refine oa_c (i := 5) (listed' := #[true, true, true, false, true, true, false, false]) rfl rfl rfl (o_call bd29 rfl (CopyInts_f _ a2 c2 keep (by repeat (first | exact hr2 | apply Rd.left)) hkl)) ?_
                rintro u59 _ rfl
                refine ta_eq (A' := F * Words hvs P.held * pt p (cl (pcs d (.slice (some ⟨bs, os, none⟩) P.seen.length cs) (.slice (some ⟨bh, oh, none⟩) P.seen.length ch) (.slice (some ⟨bl, ol, none⟩) P.seen.length cL) (.slice (some ⟨bu, ou, none⟩) P.seen.length cu) (.slice (some ⟨bm, om, none⟩) P.marks.length cm)) 46) * Sl 1 (.slice (some ⟨bs, os, none⟩) P.seen.length cs) P.seen.length (wds P.seen) * Sl 1 (.slice (some ⟨bh, oh, none⟩) P.seen.length ch) P.seen.length hvs * Sl 1 (.slice (some ⟨bl, ol, none⟩) P.seen.length cL) P.seen.length (wds P.last) * Sl 1 (.slice (some ⟨bu, ou, none⟩) P.seen.length cu) P.seen.length (bos P.sure) * Sl 1 (.slice (some ⟨bm, om, none⟩) P.marks.length cm) P.marks.length (ints P.marks) * Sl 1 (.slice (some ⟨b9, o9, none⟩) (8 * P.seen.length) c9) (8 * P.seen.length) (bys (((imgS P.s).drop 0).take (8 * P.seen.length))) * Sl 1 u59 keep.length (ints keep) * Dev d P.s) (by ac_rfl) ?_
                refine ta_have (fun _ _ h => sl_have h.left) fun ⟨a59, c59, hv59, _, _, hr59⟩ => ?_
                subst hv59
                refine ta_one (i := 3) (by kernel_rfl) ?_
                refine oa_v (i := 3) (listed' := #[true, true, true, true, true, true, false, false]) rfl rfl rfl (o_load p41 rfl (by repeat (first | exact has_here | exact has_pt | apply has_left)) rfl) ?_
                refine ta_one (i := 6) (by kernel_rfl) ?_
                refine oa_c (i := 6) (listed' := #[true, true, true, true, true, true, true, false]) rfl rfl rfl (o_call bd28 rfl (Crash_f _ d c59 P.s a59 keep hr59 hkb hkl)) ?_
                rintro _ _ ⟨rfl, rfl⟩
                refine ta_pure (i := 7) (listed' := #[true, true, true, true, true, true, true, true]) rfl (by kernel_rfl) (by kernel_rfl) (by kernel_rfl) rfl rfl (o_assign rfl) ?_
                refine ta_done (by kernel_rfl) ?_
                exact ⟨a59, c59, rfl, rfl, by show Value.int .i64 (if P.s.off = true then 5 else if lowB keep = true then 2 else 0) = _; rw [hLv.off, hlow]; rfl, by rw [hLv.off, hlow]; rfl⟩
            · intro ρ A hI
              obtain ⟨a59, c59, h2, h7, h11, rfl⟩ := hI
              refine q_then_n ?_
              refine tc_env (d := 2) h2 ?_
              refine tc_env (d := 7) h7 ?_
              refine tc_env (d := 11) h11 ?_
              refine tc_seq ?_
              refine tc_seq ?_
              refine tc_reg ?_
              refine tl_v rfl (o_move rfl) ?_
              refine tl_c rfl (o_call bd30 rfl (good_f _ a2 c2 keep (by repeat (first | exact hr2 | apply Rd.left)) (by omega))) ?_
              rintro _ _ ⟨rfl, rfl⟩
              refine tl_v rfl (o_not rfl) ?_
              refine tl_nil ?_
              refine q_then_n ?_
              refine tc_cond rfl (fun h => ?_) (fun h => ?_)
              · try simp only [decide_eq_true_eq, decide_eq_false_iff_not, Bool.not_eq_true', Bool.not_eq_false', Option.isNone_some, Option.isNone_none, Bool.not_true, Bool.not_false] at h
                refine tc_seq ?_
                refine tc_reg ?_
                refine tl_v rfl (o_move rfl) ?_
                refine tl_v rfl (o_eqi rfl rfl) ?_
                refine tl_v rfl (o_move rfl) ?_
                refine tl_bool (d := 66) rfl (fun h => ?_) (fun h => ?_)
                · try simp only [decide_eq_true_eq, decide_eq_false_iff_not, Bool.not_eq_true', Bool.not_eq_false', Option.isNone_some, Option.isNone_none, Bool.not_true, Bool.not_false] at h
                  refine tl_v rfl (o_move rfl) ?_
                  refine tl_v rfl (o_nilCheck rfl) ?_
                  refine tl_v rfl (o_fieldAddr (o := 0) Try.underlying46 rfl rfl sz41 rfl) ?_
                  refine tl_v rfl (o_load p41 rfl (by repeat (first | exact has_here | exact has_pt | apply has_left)) rfl) ?_
                  refine tl_c rfl (o_call bd31 rfl (OffD_f)) ?_
                  rintro _ _ ⟨rfl, rfl⟩
                  refine tl_v rfl (o_not rfl) ?_
                  refine tl_v rfl (by first | exact o_pick_t rfl rfl | exact o_pick_f rfl rfl | exact o_pick rfl rfl) ?_
                  refine tl_v rfl (o_assign rfl) ?_
                  refine tl_nil ?_
                  refine q_then_n ?_
                  refine tc_ret ?_
                  refine q_then_r ?_
                  exact ⟨.bool true, _, res1 rfl (by show Value.bool (!P.s.off) = _; rw [hLv.off]; rfl), fun _ _ h => h.left.left.left.left.left.left.left.left.left.left, rfl, rfl⟩
                · (exfalso; first | (revert h; simp; done) | (revert h; simp; omega) | (simp at h; omega) | omega)
              · exfalso; rw [hlow] at h; exact absurd h (by decide)

end Go.Vl

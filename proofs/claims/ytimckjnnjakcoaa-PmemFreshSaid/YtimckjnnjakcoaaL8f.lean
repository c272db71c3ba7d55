/- vellumlaw08: a device and its book are begun. Conditions: none. -/
import Derived.Test.YtimckjnnjakcoaaL8d
import Derived.Test.YtimckjnnjakcoaaL8e
set_option linter.unusedVariables false
set_option linter.unusedSimpArgs false
namespace Go.Vl
open Go Go.Proofs


theorem wds_rep (i : Nat) : wds (List.replicate (i + 1) 0) = wds (List.replicate i 0) ++ [.int .u64 0] := by rw [List.replicate_succ']; unfold wds; rw [List.map_append]; rfl
theorem bos_rep (i : Nat) : bos (List.replicate (i + 1) true) = bos (List.replicate i true) ++ [.bool true] := by rw [List.replicate_succ']; unfold bos; rw [List.map_append]; rfl
theorem words_rep {i : Nat} {hvs : List Value} {v : Value} (h : hvs.length = i) : Words (hvs ++ [v]) (List.replicate (i + 1) [0]) = Words hvs (List.replicate i [0]) * Sl 1 v 1 (wds [0]) := by
  rw [List.replicate_succ', words_snoc (by simp [h])]; rfl

theorem begun_f (F : SP) (lines : Int) (a : Option Addr) (c n : Nat) (ss : List StepC) (hn : n = 1 + wi lines 4) (hr : Rd F a (scs ss)) (hss : ∀ t ∈ ss, t.v < 18446744073709551616) (hl : ss.length + 16 ≤ 2199023255552) :
    Fn Try.prog 26 #[.int .i64 lines, .slice a ss.length c] (F) (fun r B => ∃ p d sv hv lv uv mv hvs, r = .tuple #[.pointer (some ⟨p, 0, none⟩), .bool true] ∧ B = F * PlC p d sv hv lv uv mv hvs (playL ss (begS n))) := by
  refine fn_enterW (args := [.int .i64 lines, .slice a ss.length c]) Try.func26 rfl Try.ntmps26 (by simp) ?_
  have hwi := wi_lt (p := lines) (show 0 < 4 by omega)
  have hn0 : 0 < n := by omega
  have hn4 : n ≤ 4 := by omega
  have hm4 : lines % 4 = ((wi lines 4 : Nat) : Int) := wi_cast (n := 4) (by omega)
  have hm5 := Int.emod_lt_of_pos lines (show (0 : Int) < 4 by omega)
  have hm6 := Int.emod_nonneg lines (show (4 : Int) ≠ 0 by omega)
  refine tc_seq ?_
  refine tc_reg ?_
  refine tl_v rfl (o_assign rfl) ?_
  refine tl_v rfl (o_assign rfl) ?_
  refine tl_nil ?_
  refine q_then_n ?_
  refine tc_seq ?_
  refine tc_reg ?_
  refine tl_v rfl (o_move rfl) ?_
  refine tl_c rfl (o_call bd37 rfl (within_f F lines 4 (by omega))) ?_
  rintro _ _ ⟨rfl, rfl⟩
  refine tl_v rfl (o_addI (a := 1) (b := lines % 4) rfl rfl (by omega)) ?_
  refine tl_env (d := 13) (v := .int .i64 (n : Nat)) (by show Value.int .i64 (1 + lines % 4) = _; rw [hm4, hn]; rfl) ?_
  refine tl_v rfl (o_assign rfl) ?_
  refine tl_nil ?_
  refine q_then_n ?_
  refine tc_seq ?_
  refine tc_reg ?_
  refine tl_v rfl (o_move rfl) ?_
  refine tl_v rfl (o_mulI (a := 64) (b := (n : Nat)) rfl rfl (by omega)) ?_
  refine tl_env (d := 16) (v := .int .i64 ((n * 64 : Nat) : Int)) (by show Value.int .i64 (64 * (n : Int)) = _; congr 1; omega) ?_
  refine tl_c rfl (o_call bd51 rfl (New_f F n hn0 (by omega))) ?_
  rintro u17 _ ⟨d, rfl, rfl⟩
  refine tl_v rfl (o_move rfl) ?_
  refine tl_v rfl (o_extract rfl rfl) ?_
  refine tl_v rfl (o_extract rfl rfl) ?_
  refine tl_v rfl (o_assign rfl) ?_
  refine tl_v rfl (o_assign rfl) ?_
  refine tl_nil ?_
  refine q_then_n ?_
  refine tc_seq ?_
  refine tc_seq ?_
  refine tc_reg ?_
  refine tl_v rfl (o_move rfl) ?_
  refine tl_v rfl (o_nei rfl rfl) ?_
  refine tl_v rfl (o_move rfl) ?_
  refine tl_bool (d := 22) rfl (fun h => ?_) (fun h => ?_)
  · (exfalso; first | (revert h; simp; done) | (revert h; simp; omega) | (simp at h; omega) | omega)
  · try simp only [decide_eq_true_eq, decide_eq_false_iff_not, Bool.not_eq_true', Bool.not_eq_false', Option.isNone_some, Option.isNone_none, Bool.not_true, Bool.not_false] at h
    refine tl_v rfl (o_move rfl) ?_
    refine tl_v rfl (o_eqp Try.underlying41 rfl rfl) ?_
    refine tl_v rfl (by first | exact o_pick_t rfl rfl | exact o_pick_f rfl rfl | exact o_pick rfl rfl) ?_
    refine tl_nil ?_
    refine q_then_n ?_
    refine tc_cond rfl (fun h => ?_) (fun h => ?_)
    · (exfalso; first | (revert h; simp; done) | (revert h; simp; omega) | (simp at h; omega) | omega)
    · try simp only [decide_eq_true_eq, decide_eq_false_iff_not, Bool.not_eq_true', Bool.not_eq_false', Option.isNone_some, Option.isNone_none, Bool.not_true, Bool.not_false] at h
      refine tc_skip ?_
      refine q_then_n ?_
      refine tc_seq ?_
      refine tc_reg ?_
      refine tl_v rfl (o_move rfl) ?_
      refine tl_v rfl (o_buildS (l := pcs d (.slice none 0 0) (.slice none 0 0) (.slice none 0 0) (.slice none 0 0) (.slice none 0 0)) Try.underlying46 z46 (pl46 Try.underlying46) rfl rfl) ?_
      refine tl_x rfl (o_box rfl rfl) ?_
      rintro _ _ ⟨b28, rfl, rfl⟩
      refine tl_pre (fun _ _ h => sl_nil (k := 1) (sl_nil (k := 1) (sl_nil (k := 1) (sl_nil (k := 1) h)))) ?_
      refine tl_v rfl (o_assign rfl) ?_
      refine tl_nil ?_
      refine q_then_n ?_
      refine tc_seq ?_
      refine tc_seq ?_
      refine tc_reg ?_
      refine tl_v rfl (o_assign rfl) ?_
      refine tl_nil ?_
      refine q_then_n ?_
      refine tc_block ?_
      refine tc_loop (fun k ρ A => ∃ (i : Nat) (sv hv lv uv : Value) (hvs : List Value), i ≤ 8 * n ∧ k = 8 * n - i ∧ hvs.length = i ∧ ρ 0 = .int .i64 (n : Nat) ∧ ρ 1 = .slice a ss.length c ∧ ρ 8 = .pointer (some ⟨b28, 0, none⟩) ∧ ρ 9 = .int .i64 (i : Nat) ∧ A = F * Dev d (newS n) * Words hvs (List.replicate i [0]) * pt b28 (cl (pcs d (sv) (hv) (lv) (uv) (.slice none 0 0)) 46) * Sl 1 (sv) (i) (wds (List.replicate i 0)) * Sl 1 (hv) (i) (hvs) * Sl 1 (lv) (i) (wds (List.replicate i 0)) * Sl 1 (uv) (i) (bos (List.replicate i true))) (m := 8 * n) ?_ ?_
      · exact ⟨0, (.slice none 0 0), (.slice none 0 0), (.slice none 0 0), (.slice none 0 0), [], by omega, rfl, rfl, rfl, rfl, rfl, rfl, by rw [show Words [] (List.replicate 0 [0]) = emp from rfl, star_emp]; rfl⟩
      · intro k ρ B hI
        obtain ⟨i, sv, hv, lv, uv, hvs, hi, rfl, hhvs, h0, h1, h8, h9, rfl⟩ := hI
        refine tc_env (d := 0) h0 ?_
        refine tc_env (d := 1) h1 ?_
        refine tc_env (d := 8) h8 ?_
        refine tc_env (d := 9) h9 ?_
        refine tc_seq ?_
        refine tc_seq ?_
        refine tc_reg ?_
        refine tl_v rfl (o_move rfl) ?_
        refine tl_v rfl (o_move rfl) ?_
        refine tl_v rfl (by first | exact o_mulI rfl rfl (by omega) | exact o_mul rfl rfl) ?_
        refine tl_v rfl (o_lss rfl rfl) ?_
        refine tl_nil ?_
        refine q_then_n ?_
        refine tc_cond rfl (fun h => ?_) (fun h => ?_)
        · try simp only [decide_eq_true_eq, decide_eq_false_iff_not, Bool.not_eq_true', Bool.not_eq_false', Option.isNone_some, Option.isNone_none, Bool.not_true, Bool.not_false] at h
          refine tc_skip ?_
          refine q_then_n ?_
          refine tc_seq ?_
          refine tc_block ?_
          refine tc_seq ?_
          refine tc_reg ?_
          refine tl_v rfl (o_move rfl) ?_
          refine tl_v rfl (o_move rfl) ?_
          refine tl_v rfl (o_nilCheck rfl) ?_
          refine tl_v rfl (o_fieldAddr (o := 1) Try.underlying46 rfl rfl sz42 rfl) ?_
          refine tl_v rfl (o_load p42 rfl (by repeat (first | exact has_here | exact has_pt | apply has_left)) rfl) ?_
          refine tl_x rfl (o_buildSlice1 (v := .int .u64 0) Try.underlying42 sz53 z53 rfl rfl) ?_
          rintro _ _ ⟨b40, rfl, rfl⟩
          refine tl_eq (A' := F * Dev d (newS n) * Words hvs (List.replicate i [0]) * pt b28 (cl (pcs d (sv) (hv) (lv) (uv) (.slice none 0 0)) 46) * Sl 1 (hv) (i) (hvs) * Sl 1 (lv) (i) (wds (List.replicate i 0)) * Sl 1 (uv) (i) (bos (List.replicate i true)) * Sl 1 (sv) (i) (wds (List.replicate i 0)) * pt b40 (cl [.int .u64 0] 53)) (by ac_rfl) ?_
          refine tl_x rfl (o_append1 Try.underlying42 Try.underlying42 sz53 by53 z53 rfl (by decide) (by decide) rfl rfl rfl rfl rfl (by omega)) ?_
          rintro u41 _ rfl
          refine tl_have (fun _ _ h => sl_have h) fun ⟨_, _, hu, _, _, _⟩ => ?_
          have hu1 : oneC u41 = true := by rw [hu]; rfl
          refine tl_v rfl (o_nilCheck rfl) ?_
          refine tl_v rfl (o_fieldAddr (o := 1) Try.underlying46 rfl rfl sz42 rfl) ?_
          refine tl_u rfl (o_store (l := pcs d sv hv lv uv (.slice none 0 0)) (l' := pcs d u41 hv lv uv (.slice none 0 0)) sz42 rfl rfl hu1 (by show 1 < 6; decide) rfl (by repeat (first | exact upd_here | exact upd_pt | apply upd_left))) ?_
          refine tl_nil ?_
          refine q_then_n ?_
          refine tc_seq ?_
          refine tc_reg ?_
          refine tl_v rfl (o_move rfl) ?_
          refine tl_v rfl (o_move rfl) ?_
          refine tl_v rfl (o_nilCheck rfl) ?_
          refine tl_v rfl (o_fieldAddr (o := 2) Try.underlying46 rfl rfl sz43 rfl) ?_
          refine tl_v rfl (o_load p43 rfl (by repeat (first | exact has_here | exact has_pt | apply has_left)) rfl) ?_
          refine tl_x rfl (o_buildSlice1 (v := .int .u64 0) Try.underlying42 sz53 z53 rfl rfl) ?_
          rintro _ _ ⟨b49, rfl, rfl⟩
          refine tl_pre (fun _ _ h => sl_new (k := 1) (n := 1) (cap := 1) (xs := wds [0]) h (by omega) (by simp) rfl) ?_
          refine tl_x rfl (o_buildSlice1 (v := .slice (some ⟨b49, 0, none⟩) 1 1) Try.underlying43 sz42 z42 rfl rfl) ?_
          rintro _ _ ⟨b50, rfl, rfl⟩
          refine tl_eq (A' := F * Dev d (newS n) * Words hvs (List.replicate i [0]) * pt b28 (cl (pcs d (u41) (hv) (lv) (uv) (.slice none 0 0)) 46) * Sl 1 (lv) (i) (wds (List.replicate i 0)) * Sl 1 (uv) (i) (bos (List.replicate i true)) * Sl 1 (u41) (i + 1) (wds (List.replicate i 0) ++ [.int .u64 0]) * Sl 1 (.slice (some ⟨b49, 0, none⟩) 1 1) 1 (wds [0]) * Sl 1 (hv) (i) (hvs) * pt b50 (cl [.slice (some ⟨b49, 0, none⟩) 1 1] 42)) (by ac_rfl) ?_
          refine tl_x rfl (o_append1 Try.underlying43 Try.underlying43 sz42 by42 z42 rfl (by decide) (by decide) rfl rfl rfl rfl rfl (by omega)) ?_
          rintro u51 _ rfl
          refine tl_have (fun _ _ h => sl_have h) fun ⟨_, _, hu, _, _, _⟩ => ?_
          have hu1 : oneC u51 = true := by rw [hu]; rfl
          refine tl_v rfl (o_nilCheck rfl) ?_
          refine tl_v rfl (o_fieldAddr (o := 2) Try.underlying46 rfl rfl sz43 rfl) ?_
          refine tl_u rfl (o_store (l := pcs d u41 hv lv uv (.slice none 0 0)) (l' := pcs d u41 u51 lv uv (.slice none 0 0)) sz43 rfl rfl hu1 (by show 2 < 6; decide) rfl (by repeat (first | exact upd_here | exact upd_pt | apply upd_left))) ?_
          refine tl_nil ?_
          refine q_then_n ?_
          refine tc_seq ?_
          refine tc_reg ?_
          refine tl_v rfl (o_move rfl) ?_
          refine tl_v rfl (o_move rfl) ?_
          refine tl_v rfl (o_nilCheck rfl) ?_
          refine tl_v rfl (o_fieldAddr (o := 3) Try.underlying46 rfl rfl sz42 rfl) ?_
          refine tl_v rfl (o_load p42 rfl (by repeat (first | exact has_here | exact has_pt | apply has_left)) rfl) ?_
          refine tl_x rfl (o_buildSlice1 (v := .int .u64 0) Try.underlying42 sz53 z53 rfl rfl) ?_
          rintro _ _ ⟨b59, rfl, rfl⟩
          refine tl_eq (A' := F * Dev d (newS n) * Words hvs (List.replicate i [0]) * pt b28 (cl (pcs d (u41) (u51) (lv) (uv) (.slice none 0 0)) 46) * Sl 1 (uv) (i) (bos (List.replicate i true)) * Sl 1 (u41) (i + 1) (wds (List.replicate i 0) ++ [.int .u64 0]) * Sl 1 (.slice (some ⟨b49, 0, none⟩) 1 1) 1 (wds [0]) * Sl 1 (u51) (i + 1) (hvs ++ [.slice (some ⟨b49, 0, none⟩) 1 1]) * Sl 1 (lv) (i) (wds (List.replicate i 0)) * pt b59 (cl [.int .u64 0] 53)) (by ac_rfl) ?_
          refine tl_x rfl (o_append1 Try.underlying42 Try.underlying42 sz53 by53 z53 rfl (by decide) (by decide) rfl rfl rfl rfl rfl (by omega)) ?_
          rintro u60 _ rfl
          refine tl_have (fun _ _ h => sl_have h) fun ⟨_, _, hu, _, _, _⟩ => ?_
          have hu1 : oneC u60 = true := by rw [hu]; rfl
          refine tl_v rfl (o_nilCheck rfl) ?_
          refine tl_v rfl (o_fieldAddr (o := 3) Try.underlying46 rfl rfl sz42 rfl) ?_
          refine tl_u rfl (o_store (l := pcs d u41 u51 lv uv (.slice none 0 0)) (l' := pcs d u41 u51 u60 uv (.slice none 0 0)) sz42 rfl rfl hu1 (by show 3 < 6; decide) rfl (by repeat (first | exact upd_here | exact upd_pt | apply upd_left))) ?_
          refine tl_nil ?_
          refine q_then_n ?_
          refine tc_reg ?_
          refine tl_v rfl (o_move rfl) ?_
          refine tl_v rfl (o_move rfl) ?_
          refine tl_v rfl (o_nilCheck rfl) ?_
          refine tl_v rfl (o_fieldAddr (o := 4) Try.underlying46 rfl rfl sz44 rfl) ?_
          refine tl_v rfl (o_load p44 rfl (by repeat (first | exact has_here | exact has_pt | apply has_left)) rfl) ?_
          refine tl_x rfl (o_buildSlice1 (v := .bool true) Try.underlying44 sz4 z4 rfl rfl) ?_
          rintro _ _ ⟨b68, rfl, rfl⟩
          refine tl_eq (A' := F * Dev d (newS n) * Words hvs (List.replicate i [0]) * pt b28 (cl (pcs d (u41) (u51) (u60) (uv) (.slice none 0 0)) 46) * Sl 1 (u41) (i + 1) (wds (List.replicate i 0) ++ [.int .u64 0]) * Sl 1 (.slice (some ⟨b49, 0, none⟩) 1 1) 1 (wds [0]) * Sl 1 (u51) (i + 1) (hvs ++ [.slice (some ⟨b49, 0, none⟩) 1 1]) * Sl 1 (u60) (i + 1) (wds (List.replicate i 0) ++ [.int .u64 0]) * Sl 1 (uv) (i) (bos (List.replicate i true)) * pt b68 (cl [.bool true] 4)) (by ac_rfl) ?_
          refine tl_x rfl (o_append1 Try.underlying44 Try.underlying44 sz4 by4 z4 rfl (by decide) (by decide) rfl rfl rfl rfl rfl (by omega)) ?_
          rintro u69 _ rfl
          refine tl_have (fun _ _ h => sl_have h) fun ⟨_, _, hu, _, _, _⟩ => ?_
          have hu1 : oneC u69 = true := by rw [hu]; rfl
          refine tl_v rfl (o_nilCheck rfl) ?_
          refine tl_v rfl (o_fieldAddr (o := 4) Try.underlying46 rfl rfl sz44 rfl) ?_
          refine tl_u rfl (o_store (l := pcs d u41 u51 u60 uv (.slice none 0 0)) (l' := pcs d u41 u51 u60 u69 (.slice none 0 0)) sz44 rfl rfl hu1 (by show 4 < 6; decide) rfl (by repeat (first | exact upd_here | exact upd_pt | apply upd_left))) ?_
          refine tl_nil ?_
          refine q_block_n (q_then_n ?_)
          refine tc_reg ?_
          refine tl_v rfl (o_move rfl) ?_
          refine tl_v rfl (by first | exact o_addI rfl rfl (by omega) | exact o_add rfl rfl) ?_
          refine tl_v rfl (o_assign rfl) ?_
          refine tl_nil ?_
          refine q_then_n ?_
          exact ⟨_, by omega, i + 1, u41, u51, u60, u69, hvs ++ [.slice (some ⟨b49, 0, none⟩) 1 1], by omega, rfl, by simp [hhvs], rfl, rfl, rfl, rfl, by rw [wds_rep, bos_rep, words_rep hhvs]; ac_rfl⟩
        · try simp only [decide_eq_true_eq, decide_eq_false_iff_not, Bool.not_eq_true', Bool.not_eq_false', Option.isNone_some, Option.isNone_none, Bool.not_true, Bool.not_false] at h
          refine tc_exit ?_
          refine q_then_e (q_then_e (q_block_x (q_then_n ?_)))
          refine tc_seq ?_
          refine tc_reg ?_
          obtain rfl : i = 8 * n := by omega
          refine tl_v rfl (o_move rfl) ?_
          refine tl_v rfl (o_move rfl) ?_
          refine tl_x rfl (o_makeSlice (len := n) (cap := n) Try.underlying37 sz3 by3 z3 rfl rfl rfl (by omega) (by omega) (by omega)) ?_
          rintro _ _ ⟨b74, rfl, rfl⟩
          refine tl_pre (fun _ _ h => sl_new (k := 1) (n := n) (cap := n) (xs := ints (List.replicate n 0)) h (by omega) (by simp) (by rw [Nat.mul_one, List.take_of_length_le (by simp)]; unfold ints; rw [List.map_replicate]; rfl)) ?_
          refine tl_v rfl (o_nilCheck rfl) ?_
          refine tl_v rfl (o_fieldAddr (o := 5) Try.underlying46 rfl rfl sz37 rfl) ?_
          refine tl_u rfl (o_store (l := pcs d sv hv lv uv (.slice none 0 0)) (l' := pcs d sv hv lv uv (.slice (some ⟨b74, 0, none⟩) n n)) sz37 rfl rfl rfl (by show 5 < 6; decide) rfl (by repeat (first | exact upd_here | exact upd_pt | apply upd_left))) ?_
          refine tl_eq (A' := F * PlC b28 d sv hv lv uv (.slice (some ⟨b74, 0, none⟩) n n) hvs (begS n)) (by unfold PlC begS; simp only [List.length_replicate]; ac_rfl) ?_
          refine tl_nil ?_
          refine q_then_n ?_
          refine tc_seq ?_
          refine tc_seq ?_
          refine tc_reg ?_
          refine tl_v rfl (o_assign rfl) ?_
          refine tl_nil ?_
          refine q_then_n ?_
          refine tc_block ?_
          refine tc_loop (fun k ρ A => ∃ (j : Nat) (hvs : List Value), j ≤ ss.length ∧ k = ss.length - j ∧ ρ 1 = .slice a ss.length c ∧ ρ 8 = .pointer (some ⟨b28, 0, none⟩) ∧ ρ 10 = .int .i64 (j : Nat) ∧ A = F * PlC b28 d sv hv lv uv (.slice (some ⟨b74, 0, none⟩) n n) hvs (playL (ss.take j) (begS n))) (m := ss.length) ?_ ?_
          · exact ⟨0, hvs, by omega, rfl, rfl, rfl, rfl, rfl⟩
          · intro k ρ B hI
            obtain ⟨j, hvs, hj, rfl, h1, h8, h10, rfl⟩ := hI
            refine tc_env (d := 1) h1 ?_
            refine tc_env (d := 8) h8 ?_
            refine tc_env (d := 10) h10 ?_
            refine tc_seq ?_
            refine tc_seq ?_
            refine tc_reg ?_
            refine tl_v rfl (o_move rfl) ?_
            refine tl_v rfl (o_move rfl) ?_
            refine tl_v rfl (o_len Try.underlying36 rfl) ?_
            refine tl_v rfl (o_lss rfl rfl) ?_
            refine tl_nil ?_
            refine q_then_n ?_
            refine tc_cond rfl (fun h => ?_) (fun h => ?_)
            · simp only [decide_eq_true_eq] at h
              have hj' : j < ss.length := by omega
              obtain ⟨hWP, hLV⟩ := playL_ok (ss.take j) (r := 1) (P := begS n) (begS_wf hn0 hn4 (by rw [List.length_take]; omega)) (begS_live n)
              obtain ⟨hok, _, _⟩ := step_ok (r := 0) hWP hLV ss[j].k ss[j].q ss[j].v
              obtain ⟨b, o, rfl, hcs⟩ := hr.some (by rw [scs_length]; omega)
              have hc7 := hcs.sub (j * 7) 7 (scs_at hj')
              refine tc_skip ?_
              refine q_then_n ?_
              refine tc_seq ?_
              refine tc_block ?_
              refine tc_seq ?_
              refine tc_reg ?_
              refine tl_v rfl (o_move rfl) ?_
              refine tl_v rfl (o_move rfl) ?_
              refine tl_v rfl (o_move rfl) ?_
              refine tl_v rfl (o_indexAddrN (j := j) Try.underlying36 sz76 rfl rfl hj') ?_
              refine tl_v rfl (o_loadNC (vs := ss[j].cells) a76 sz76 rfl rfl hc7.left) ?_
              refine tl_c rfl (o_call bd45 rfl (play_f F b28 d ss[j].v ss[j].k ss[j].q ss[j].nv ss[j].dv ss[j].kv ss[j].av sv hv lv uv _ hvs _ hWP (hss _ (List.getElem_mem hj')))) ?_
              rintro u88 _ ⟨hvs', rfl, rfl⟩
              refine tl_v rfl (o_not rfl) ?_
              refine tl_nil ?_
              refine q_then_n ?_
              refine tc_cond rfl (fun h => ?_) (fun h => ?_)
              · exfalso; rw [hok] at h; exact absurd h (by decide)
              · try simp only [decide_eq_true_eq, decide_eq_false_iff_not, Bool.not_eq_true', Bool.not_eq_false', Option.isNone_some, Option.isNone_none, Bool.not_true, Bool.not_false] at h
                refine tc_skip ?_
                refine q_block_n (q_then_n ?_)
                refine tc_reg ?_
                refine tl_v rfl (o_move rfl) ?_
                refine tl_v rfl (by first | exact o_addI rfl rfl (by omega) | exact o_add rfl rfl) ?_
                refine tl_v rfl (o_assign rfl) ?_
                refine tl_nil ?_
                refine q_then_n ?_
                exact ⟨_, by omega, j + 1, hvs', by omega, rfl, rfl, rfl, rfl, by rw [playL_succ hj']⟩
            · try simp only [decide_eq_true_eq, decide_eq_false_iff_not, Bool.not_eq_true', Bool.not_eq_false', Option.isNone_some, Option.isNone_none, Bool.not_true, Bool.not_false] at h
              refine tc_exit ?_
              refine q_then_e (q_then_e (q_block_x (q_then_n ?_)))
              refine tc_seq ?_
              refine tc_reg ?_
              refine tl_v rfl (o_move rfl) ?_
              refine tl_v rfl (o_assign rfl) ?_
              refine tl_v rfl (o_assign rfl) ?_
              refine tl_nil ?_
              refine q_then_n ?_
              refine tc_ret ?_
              obtain rfl : j = ss.length := by omega
              rw [List.take_length]
              exact ⟨.tuple #[.pointer (some ⟨b28, 0, none⟩), .bool true], _, res2 rfl rfl rfl, fun _ _ h => h, b28, d, sv, hv, lv, uv, _, hvs, rfl, rfl⟩

end Go.Vl

/- Walks of package pmem: a line's content; copies of lists. Conditions: none. -/
import Derived.Test.YtimckjnnjakcoaaPmem1
set_option linter.unusedVariables false
set_option linter.unusedSimpArgs false
namespace Go.Vl
open Go Go.Proofs

theorem seen_f (A : SP) (bl off c : Nat) (a : Option Addr) (st : List (List Nat)) (hc : Cell A bl off (.slice a st.length c)) (hr : Rd A a (stc st)) (he : Eight st) (hne : 0 < st.length) (hs : st.length ≤ 2199023255552) :
    Fn Try.prog 89 #[.pointer (some ⟨bl, off, none⟩)] (A) (fun r B => r = .agg (wds (st[st.length - 1]'(by omega))).toArray ∧ A = B) := by
  obtain ⟨b, o, rfl, hcs⟩ := hr.some (by rw [stc_length he]; omega)
  have e1 : ((st.length : Int) - 1).toNat = st.length - 1 := by omega
  have hlast0 := hcs.sub ((st.length - 1) * 8) 8 (stc_at he (show st.length - 1 < st.length by omega))
  have hlast : Cells A b (o + ((st.length : Int) - 1).toNat * 8) (wds (st[st.length - 1]'(by omega))) := by rw [e1]; exact hlast0
  have hl8 : (wds (st[st.length - 1]'(by omega))).length = 8 := by rw [wds_length]; exact he _ (List.getElem_mem _)
  refine fn_enterW (args := [.pointer (some ⟨bl, off, none⟩)]) Try.func89 rfl Try.ntmps89 (by simp) ?_
  refine tc_seq ?_
  refine tc_reg ?_
  refine tl_x rfl (o_alloc z147 rfl) ?_
  rintro _ _ ⟨b2, rfl, rfl⟩
  refine tl_nil ?_
  refine q_then_n ?_
  refine tc_seq ?_
  refine tc_rega mo ?_
  show TA _ _ _ _ 13 #[false, false, false, false, false, false, false, false, false, false, false, false, false] _ _
  refine ta_pure (i := 0) (listed' := #[true, false, false, false, false, false, false, false, false, false, false, false, false]) rfl (by kernel_rfl) (by kernel_rfl) (by kernel_rfl) rfl rfl (o_move rfl) ?_
  refine ta_pure (i := 1) (listed' := #[true, true, false, false, false, false, false, false, false, false, false, false, false]) rfl (by kernel_rfl) (by kernel_rfl) (by kernel_rfl) rfl rfl (o_nilCheck rfl) ?_
  refine ta_pure (i := 2) (listed' := #[true, true, true, false, false, false, false, false, false, false, false, false, false]) rfl (by kernel_rfl) (by kernel_rfl) (by kernel_rfl) rfl rfl (o_fieldAddr (o := 0) Try.underlying150 rfl rfl sz148 rfl) ?_
  refine ta_pure (i := 4) (listed' := #[true, true, true, false, true, false, false, false, false, false, false, false, false]) rfl (by kernel_rfl) (by kernel_rfl) (by kernel_rfl) rfl rfl (o_move rfl) ?_
  refine ta_pure (i := 5) (listed' := #[true, true, true, false, true, true, false, false, false, false, false, false, false]) rfl (by kernel_rfl) (by kernel_rfl) (by kernel_rfl) rfl rfl (o_nilCheck rfl) ?_
  refine ta_pure (i := 6) (listed' := #[true, true, true, false, true, true, true, false, false, false, false, false, false]) rfl (by kernel_rfl) (by kernel_rfl) (by kernel_rfl) rfl rfl (o_fieldAddr (o := 0) Try.underlying150 rfl rfl sz148 rfl) ?_
  refine ta_two (i := 3) (j := 7) (by kernel_rfl) ?_ ?_
  · skip
    refine oa_v (i := 3) (listed' := #[true, true, true, true, true, true, true, false, false, false, false, false, false]) rfl rfl rfl (o_loadC p148 rfl hc.left) ?_
    refine ta_one (i := 7) (by kernel_rfl) ?_
    refine oa_v (i := 7) (listed' := #[true, true, true, true, true, true, true, true, false, false, false, false, false]) rfl rfl rfl (o_loadC p148 rfl hc.left) ?_
    refine ta_pure (i := 8) (listed' := #[true, true, true, true, true, true, true, true, true, false, false, false, false]) rfl (by kernel_rfl) (by kernel_rfl) (by kernel_rfl) rfl rfl (o_len Try.underlying148 rfl) ?_
    refine ta_pure (i := 9) (listed' := #[true, true, true, true, true, true, true, true, true, true, false, false, false]) rfl (by kernel_rfl) (by kernel_rfl) (by kernel_rfl) rfl rfl (by first | exact o_subI rfl rfl (by omega) | exact o_sub rfl rfl) ?_
    refine ta_pure (i := 10) (listed' := #[true, true, true, true, true, true, true, true, true, true, true, false, false]) rfl (by kernel_rfl) (by kernel_rfl) (by kernel_rfl) rfl rfl (o_indexAddr Try.underlying148 sz147 rfl rfl (by omega) (by omega)) ?_
    refine ta_one (i := 11) (by kernel_rfl) ?_
    refine oa_v (i := 11) (listed' := #[true, true, true, true, true, true, true, true, true, true, true, true, false]) rfl rfl rfl (o_loadNC a147 sz147 rfl hl8 hlast.left) ?_
    refine ta_one (i := 12) (by kernel_rfl) ?_
    refine oa_u (i := 12) (listed' := #[true, true, true, true, true, true, true, true, true, true, true, true, true]) rfl rfl rfl (o_storeN (l' := wds (st[st.length - 1]'(by omega))) sz147 rfl rfl hl8 (wds_all _) (by simp) (splice_all (by rw [hl8]; rfl)) upd_here) ?_
    refine ta_done (by kernel_rfl) ?_
    refine q_then_n ?_
    refine tc_ret ?_
    exact ⟨_, _, resA1 rfl (rv_cell a147 sz147 rfl has_here (by omega) (List.take_of_length_le (by rw [List.drop_zero]; omega))), fun _ _ h => h.left, rfl, rfl⟩
  · skip
    refine oa_v (i := 7) (listed' := #[true, true, true, false, true, true, true, true, false, false, false, false, false]) rfl rfl rfl (o_loadC p148 rfl hc.left) ?_
    refine ta_pure (i := 8) (listed' := #[true, true, true, false, true, true, true, true, true, false, false, false, false]) rfl (by kernel_rfl) (by kernel_rfl) (by kernel_rfl) rfl rfl (o_len Try.underlying148 rfl) ?_
    refine ta_pure (i := 9) (listed' := #[true, true, true, false, true, true, true, true, true, true, false, false, false]) rfl (by kernel_rfl) (by kernel_rfl) (by kernel_rfl) rfl rfl (by first | exact o_subI rfl rfl (by omega) | exact o_sub rfl rfl) ?_
    refine ta_one (i := 3) (by kernel_rfl) ?_
    refine oa_v (i := 3) (listed' := #[true, true, true, true, true, true, true, true, true, true, false, false, false]) rfl rfl rfl (o_loadC p148 rfl hc.left) ?_
    refine ta_pure (i := 10) (listed' := #[true, true, true, true, true, true, true, true, true, true, true, false, false]) rfl (by kernel_rfl) (by kernel_rfl) (by kernel_rfl) rfl rfl (o_indexAddr Try.underlying148 sz147 rfl rfl (by omega) (by omega)) ?_
    refine ta_one (i := 11) (by kernel_rfl) ?_
    refine oa_v (i := 11) (listed' := #[true, true, true, true, true, true, true, true, true, true, true, true, false]) rfl rfl rfl (o_loadNC a147 sz147 rfl hl8 hlast.left) ?_
    refine ta_one (i := 12) (by kernel_rfl) ?_
    refine oa_u (i := 12) (listed' := #[true, true, true, true, true, true, true, true, true, true, true, true, true]) rfl rfl rfl (o_storeN (l' := wds (st[st.length - 1]'(by omega))) sz147 rfl rfl hl8 (wds_all _) (by simp) (splice_all (by rw [hl8]; rfl)) upd_here) ?_
    refine ta_done (by kernel_rfl) ?_
    refine q_then_n ?_
    refine tc_ret ?_
    exact ⟨_, _, resA1 rfl (rv_cell a147 sz147 rfl has_here (by omega) (List.take_of_length_le (by rw [List.drop_zero]; omega))), fun _ _ h => h.left, rfl, rfl⟩


theorem sl_empty {k b : Nat} {R : SP} {E : TypeId} {g : Gh} {w : World} (hs : sat g w (R * pt b (cl [] E))) : sat g w (R * Sl k (.slice (some ⟨b, 0, none⟩) 0 0) 0 []) := sl_new (cap := 0) hs (by omega) (by simp) (by simp)

theorem CloneI_f (A : SP) (n c : Nat) (xs : List Value) (p : Addr) (hr : Rd A (some p) xs) (hl : xs.length = n * 1) (ho : xs.all oneC = true) (hs : n * 8 ≤ 140737488355328) :
    Fn Try.prog 100 #[.slice (some p) n c] (A) (fun r B => B = A * Sl 1 r n xs) := by
  refine fn_enter (args := [.slice (some p) n c]) Try.func100 rfl Try.ntmps100 (by simp) ?_
  refine tc_seq ?_
  refine tc_reg ?_
  refine tl_v rfl (o_assign rfl) ?_
  refine tl_nil ?_
  refine q_then_n ?_
  refine tc_seq ?_
  refine tc_seq ?_
  refine tc_reg ?_
  refine tl_v rfl (o_move rfl) ?_
  refine tl_v rfl (o_eqs Try.underlying37 rfl rfl) ?_
  refine tl_nil ?_
  refine q_then_n ?_
  refine tc_cond rfl (fun h => ?_) (fun h => ?_)
  · (exfalso; first | (revert h; simp; done) | (revert h; simp; omega) | (simp at h; omega) | omega)
  · try simp only [decide_eq_true_eq, decide_eq_false_iff_not, Bool.not_eq_true', Bool.not_eq_false', Option.isNone_some, Option.isNone_none, Bool.not_true, Bool.not_false] at h
    refine tc_skip ?_
    refine q_then_n ?_
    refine tc_seq ?_
    refine tc_reg ?_
    refine tl_x rfl (o_buildSlice0 Try.underlying37 sz3 rfl) ?_
    rintro _ _ ⟨b5, rfl, rfl⟩
    refine tl_pre (fun _ _ h => sl_empty (k := 1) h) ?_
    refine tl_v rfl (o_move rfl) ?_
    refine tl_x rfl (o_append2 Try.underlying37 Try.underlying37 sz3 by3 z3 rfl (by decide) (by decide) rfl rfl rfl hr.left hl ho (by omega)) ?_
    rintro u7 _ rfl
    refine tl_v rfl (o_assign rfl) ?_
    refine tl_nil ?_
    refine q_then_n ?_
    refine tc_ret ?_
    exact ⟨u7, res1 rfl rfl, by rw [Nat.zero_add, List.nil_append]⟩

theorem CloneI_nil (A : SP) :
    Fn Try.prog 100 #[.slice none 0 0] (A) (fun r B => r = .slice none 0 0 ∧ A = B) := by
  refine fn_enter (args := [.slice none 0 0]) Try.func100 rfl Try.ntmps100 (by simp) ?_
  refine tc_seq ?_
  refine tc_reg ?_
  refine tl_v rfl (o_assign rfl) ?_
  refine tl_nil ?_
  refine q_then_n ?_
  refine tc_seq ?_
  refine tc_seq ?_
  refine tc_reg ?_
  refine tl_v rfl (o_move rfl) ?_
  refine tl_v rfl (o_eqs Try.underlying37 rfl rfl) ?_
  refine tl_nil ?_
  refine q_then_n ?_
  refine tc_cond rfl (fun h => ?_) (fun h => ?_)
  · try simp only [decide_eq_true_eq, decide_eq_false_iff_not, Bool.not_eq_true', Bool.not_eq_false', Option.isNone_some, Option.isNone_none, Bool.not_true, Bool.not_false] at h
    refine tc_seq ?_
    refine tc_reg ?_
    refine tl_v rfl (o_assign rfl) ?_
    refine tl_nil ?_
    refine q_then_n ?_
    refine tc_ret ?_
    refine q_then_r ?_
    exact ⟨_, res1 rfl rfl, rfl, rfl⟩
  · (exfalso; first | (revert h; simp; done) | (revert h; simp; omega) | (simp at h; omega) | omega)

theorem CloneS_f (A : SP) (n c : Nat) (xs : List Value) (p : Addr) (hr : Rd A (some p) xs) (hl : xs.length = n * 8) (ho : xs.all oneC = true) (hs : n * 64 ≤ 140737488355328) :
    Fn Try.prog 95 #[.slice (some p) n c] (A) (fun r B => B = A * Sl 8 r n xs) := by
  refine fn_enter (args := [.slice (some p) n c]) Try.func95 rfl Try.ntmps95 (by simp) ?_
  refine tc_seq ?_
  refine tc_reg ?_
  refine tl_v rfl (o_assign rfl) ?_
  refine tl_nil ?_
  refine q_then_n ?_
  refine tc_seq ?_
  refine tc_seq ?_
  refine tc_reg ?_
  refine tl_v rfl (o_move rfl) ?_
  refine tl_v rfl (o_eqs Try.underlying148 rfl rfl) ?_
  refine tl_nil ?_
  refine q_then_n ?_
  refine tc_cond rfl (fun h => ?_) (fun h => ?_)
  · (exfalso; first | (revert h; simp; done) | (revert h; simp; omega) | (simp at h; omega) | omega)
  · try simp only [decide_eq_true_eq, decide_eq_false_iff_not, Bool.not_eq_true', Bool.not_eq_false', Option.isNone_some, Option.isNone_none, Bool.not_true, Bool.not_false] at h
    refine tc_skip ?_
    refine q_then_n ?_
    refine tc_seq ?_
    refine tc_reg ?_
    refine tl_x rfl (o_buildSlice0 Try.underlying148 sz147 rfl) ?_
    rintro _ _ ⟨b5, rfl, rfl⟩
    refine tl_pre (fun _ _ h => sl_empty (k := 8) h) ?_
    refine tl_v rfl (o_move rfl) ?_
    refine tl_x rfl (o_append2 Try.underlying148 Try.underlying148 sz147 by147 z147 rfl (by decide) (by decide) rfl rfl rfl hr.left hl ho (by omega)) ?_
    rintro u7 _ rfl
    refine tl_v rfl (o_assign rfl) ?_
    refine tl_nil ?_
    refine q_then_n ?_
    refine tc_ret ?_
    exact ⟨u7, res1 rfl rfl, by rw [Nat.zero_add, List.nil_append]⟩

theorem CloneS_nil (A : SP) :
    Fn Try.prog 95 #[.slice none 0 0] (A) (fun r B => r = .slice none 0 0 ∧ A = B) := by
  refine fn_enter (args := [.slice none 0 0]) Try.func95 rfl Try.ntmps95 (by simp) ?_
  refine tc_seq ?_
  refine tc_reg ?_
  refine tl_v rfl (o_assign rfl) ?_
  refine tl_nil ?_
  refine q_then_n ?_
  refine tc_seq ?_
  refine tc_seq ?_
  refine tc_reg ?_
  refine tl_v rfl (o_move rfl) ?_
  refine tl_v rfl (o_eqs Try.underlying148 rfl rfl) ?_
  refine tl_nil ?_
  refine q_then_n ?_
  refine tc_cond rfl (fun h => ?_) (fun h => ?_)
  · try simp only [decide_eq_true_eq, decide_eq_false_iff_not, Bool.not_eq_true', Bool.not_eq_false', Option.isNone_some, Option.isNone_none, Bool.not_true, Bool.not_false] at h
    refine tc_seq ?_
    refine tc_reg ?_
    refine tl_v rfl (o_assign rfl) ?_
    refine tl_nil ?_
    refine q_then_n ?_
    refine tc_ret ?_
    refine q_then_r ?_
    exact ⟨_, res1 rfl rfl, rfl, rfl⟩
  · (exfalso; first | (revert h; simp; done) | (revert h; simp; omega) | (simp at h; omega) | omega)

theorem CloneA_f (A : SP) (n c : Nat) (xs : List Value) (p : Addr) (hr : Rd A (some p) xs) (hl : xs.length = n * 2) (ho : xs.all oneC = true) (hs : n * 32 ≤ 140737488355328) :
    Fn Try.prog 96 #[.slice (some p) n c] (A) (fun r B => B = A * Sl 2 r n xs) := by
  refine fn_enter (args := [.slice (some p) n c]) Try.func96 rfl Try.ntmps96 (by simp) ?_
  refine tc_seq ?_
  refine tc_reg ?_
  refine tl_v rfl (o_assign rfl) ?_
  refine tl_nil ?_
  refine q_then_n ?_
  refine tc_seq ?_
  refine tc_seq ?_
  refine tc_reg ?_
  refine tl_v rfl (o_move rfl) ?_
  refine tl_v rfl (o_eqs Try.underlying74 rfl rfl) ?_
  refine tl_nil ?_
  refine q_then_n ?_
  refine tc_cond rfl (fun h => ?_) (fun h => ?_)
  · (exfalso; first | (revert h; simp; done) | (revert h; simp; omega) | (simp at h; omega) | omega)
  · try simp only [decide_eq_true_eq, decide_eq_false_iff_not, Bool.not_eq_true', Bool.not_eq_false', Option.isNone_some, Option.isNone_none, Bool.not_true, Bool.not_false] at h
    refine tc_skip ?_
    refine q_then_n ?_
    refine tc_seq ?_
    refine tc_reg ?_
    refine tl_x rfl (o_buildSlice0 Try.underlying74 sz72 rfl) ?_
    rintro _ _ ⟨b5, rfl, rfl⟩
    refine tl_pre (fun _ _ h => sl_empty (k := 2) h) ?_
    refine tl_v rfl (o_move rfl) ?_
    refine tl_x rfl (o_append2 Try.underlying74 Try.underlying74 sz72 by72 z72 rfl (by decide) (by decide) rfl rfl rfl hr.left hl ho (by omega)) ?_
    rintro u7 _ rfl
    refine tl_v rfl (o_assign rfl) ?_
    refine tl_nil ?_
    refine q_then_n ?_
    refine tc_ret ?_
    exact ⟨u7, res1 rfl rfl, by rw [Nat.zero_add, List.nil_append]⟩

theorem CloneA_nil (A : SP) :
    Fn Try.prog 96 #[.slice none 0 0] (A) (fun r B => r = .slice none 0 0 ∧ A = B) := by
  refine fn_enter (args := [.slice none 0 0]) Try.func96 rfl Try.ntmps96 (by simp) ?_
  refine tc_seq ?_
  refine tc_reg ?_
  refine tl_v rfl (o_assign rfl) ?_
  refine tl_nil ?_
  refine q_then_n ?_
  refine tc_seq ?_
  refine tc_seq ?_
  refine tc_reg ?_
  refine tl_v rfl (o_move rfl) ?_
  refine tl_v rfl (o_eqs Try.underlying74 rfl rfl) ?_
  refine tl_nil ?_
  refine q_then_n ?_
  refine tc_cond rfl (fun h => ?_) (fun h => ?_)
  · try simp only [decide_eq_true_eq, decide_eq_false_iff_not, Bool.not_eq_true', Bool.not_eq_false', Option.isNone_some, Option.isNone_none, Bool.not_true, Bool.not_false] at h
    refine tc_seq ?_
    refine tc_reg ?_
    refine tl_v rfl (o_assign rfl) ?_
    refine tl_nil ?_
    refine q_then_n ?_
    refine tc_ret ?_
    refine q_then_r ?_
    exact ⟨_, res1 rfl rfl, rfl, rfl⟩
  · (exfalso; first | (revert h; simp; done) | (revert h; simp; omega) | (simp at h; omega) | omega)


theorem foldl_min_le : ∀ (l : List Int) (m : Int), l.foldl min m ≤ m ∧ ∀ x ∈ l, l.foldl min m ≤ x
  | [], m => ⟨Int.le_refl _, fun x h => by cases h⟩
  | y :: l, m => by
    obtain ⟨h1, h2⟩ := foldl_min_le l (min m y)
    refine ⟨by simp only [List.foldl_cons]; omega, fun x hx => ?_⟩
    simp only [List.foldl_cons]
    rcases List.mem_cons.1 hx with rfl | hx
    · omega
    · exact h2 x hx
theorem foldl_min_mem : ∀ (l : List Int) (m : Int), l.foldl min m = m ∨ l.foldl min m ∈ l
  | [], m => .inl rfl
  | y :: l, m => by
    simp only [List.foldl_cons]
    rcases foldl_min_mem l (min m y) with h | h
    · rw [h]
      rcases Int.le_total m y with h' | h'
      · left; omega
      · right; simp; left; omega
    · right; simp [h]

theorem take_fold {xs : List Int} {m : Int} {i : Nat} (hx : xs = m :: xs.tail) (h1 : 1 ≤ i) (hi : i < xs.length) : (xs.tail.take (i + 1 - 1)).foldl min m = min ((xs.tail.take (i - 1)).foldl min m) xs[i] := by
  have hl : i - 1 < xs.tail.length := by simp; omega
  have e : i + 1 - 1 = (i - 1) + 1 := by omega
  rw [e, List.take_succ_eq_append_getElem hl, List.foldl_append]
  simp only [List.foldl_cons, List.foldl_nil]
  congr 1
  rw [List.getElem_tail]; congr 1; omega

theorem MinI_f (A : SP) (a : Option Addr) (c : Nat) (xs : List Int) (m : Int) (hx : xs = m :: xs.tail) (hr : Rd A a (ints xs)) (hl : xs.length ≤ 1099511627776000) :
    Fn Try.prog 134 #[.slice a xs.length c] (A) (fun r B => r = .int .i64 (xs.tail.foldl min m) ∧ A = B) := by
  refine fn_enter (args := [.slice a xs.length c]) Try.func134 rfl Try.ntmps134 (by simp) ?_
  have h0 : 0 < xs.length := by rw [hx]; simp
  obtain ⟨b, o, rfl, hc⟩ := hr.some (by rw [ints_length]; omega)
  have g0 := hc 0 _ (ints_at h0)
  have e0 : xs[0] = m := by conv => lhs; arg 1; rw [hx]
                            rfl
  rw [e0] at g0
  refine tc_seq ?_
  refine tc_reg ?_
  refine tl_v rfl (o_assign rfl) ?_
  refine tl_nil ?_
  refine q_then_n ?_
  refine tc_seq ?_
  refine tc_seq ?_
  refine tc_reg ?_
  refine tl_v rfl (o_move rfl) ?_
  refine tl_v rfl (o_len Try.underlying37 rfl) ?_
  refine tl_v rfl (o_lss rfl rfl) ?_
  refine tl_nil ?_
  refine q_then_n ?_
  refine tc_cond rfl (fun h => ?_) (fun h => ?_)
  · (exfalso; first | (revert h; simp; done) | (revert h; simp; omega) | (simp at h; omega) | omega)
  · try simp only [decide_eq_true_eq, decide_eq_false_iff_not, Bool.not_eq_true', Bool.not_eq_false', Option.isNone_some, Option.isNone_none, Bool.not_true, Bool.not_false] at h
    refine tc_skip ?_
    refine q_then_n ?_
    refine tc_seq ?_
    refine tc_reg ?_
    refine tl_v rfl (o_move rfl) ?_
    refine tl_v rfl (by first | exact o_indexAddrN1 Try.underlying37 sz3 rfl rfl (by omega) | exact o_indexAddr1 Try.underlying37 sz3 rfl rfl (by omega) (by omega)) ?_
    refine tl_v rfl (o_loadC p3 rfl g0) ?_
    refine tl_v rfl (o_assign rfl) ?_
    refine tl_nil ?_
    refine q_then_n ?_
    refine tc_seq ?_
    refine tc_seq ?_
    refine tc_reg ?_
    refine tl_v rfl (o_assign rfl) ?_
    refine tl_nil ?_
    refine q_then_n ?_
    refine tc_block ?_
    refine tc_loop (fun k ρ B => A = B ∧ ∃ i : Nat, 1 ≤ i ∧ i ≤ xs.length ∧ k = xs.length - i ∧ ρ 0 = .slice (some ⟨b, o, none⟩) xs.length c ∧ ρ 4 = .int .i64 i ∧ ρ 3 = .int .i64 ((xs.tail.take (i - 1)).foldl min m)) (m := xs.length - 1) ?_ ?_
    · exact ⟨rfl, 1, by omega, by omega, rfl, rfl, rfl, rfl⟩
    · intro k ρ B hI
      obtain ⟨rfl, i, hi, hi2, rfl, h0', h4, h3⟩ := hI
      refine tc_env (d := 0) h0' ?_
      refine tc_env (d := 4) h4 ?_
      refine tc_env (d := 3) h3 ?_
      refine tc_seq ?_
      refine tc_seq ?_
      refine tc_reg ?_
      refine tl_v rfl (o_move rfl) ?_
      refine tl_v rfl (o_move rfl) ?_
      refine tl_v rfl (o_len Try.underlying37 rfl) ?_
      refine tl_v rfl (o_lss rfl rfl) ?_
      refine tl_nil ?_
      refine q_then_n ?_
      refine tc_cond rfl (fun h => ?_) (fun h => ?_)
      · try simp only [decide_eq_true_eq, decide_eq_false_iff_not, Bool.not_eq_true', Bool.not_eq_false', Option.isNone_some, Option.isNone_none, Bool.not_true, Bool.not_false] at h
        refine tc_skip ?_
        refine q_then_n ?_
        refine tc_seq ?_
        refine tc_block ?_
        refine tc_reg ?_
        refine tl_v rfl (o_move rfl) ?_
        refine tl_v rfl (o_move rfl) ?_
        refine tl_v rfl (o_move rfl) ?_
        have gi := hc i _ (ints_at (show i < xs.length by omega))
        refine tl_v rfl (by first | exact o_indexAddrN1 Try.underlying37 sz3 rfl rfl (by omega) | exact o_indexAddr1 Try.underlying37 sz3 rfl rfl (by omega) (by omega)) ?_
        refine tl_v rfl (o_loadC p3 rfl gi) ?_
        refine tl_v rfl (o_min rfl rfl) ?_
        refine tl_v rfl (o_assign rfl) ?_
        refine tl_nil ?_
        refine q_block_n (q_then_n ?_)
        refine tc_reg ?_
        refine tl_v rfl (o_move rfl) ?_
        refine tl_v rfl (by first | exact o_addI rfl rfl (by omega) | exact o_add rfl rfl) ?_
        refine tl_v rfl (o_assign rfl) ?_
        refine tl_nil ?_
        refine q_then_n ?_
        exact ⟨_, by omega, rfl, i + 1, by omega, by omega, rfl, rfl, rfl, by rw [take_fold hx (by omega) (by omega)]; rfl⟩
      · try simp only [decide_eq_true_eq, decide_eq_false_iff_not, Bool.not_eq_true', Bool.not_eq_false', Option.isNone_some, Option.isNone_none, Bool.not_true, Bool.not_false] at h
        refine tc_exit ?_
        refine q_then_e (q_then_e (q_block_x (q_then_n ?_)))
        refine tc_seq ?_
        refine tc_reg ?_
        refine tl_v rfl (o_move rfl) ?_
        refine tl_v rfl (o_assign rfl) ?_
        refine tl_nil ?_
        refine q_then_n ?_
        refine tc_ret ?_
        have e : xs.tail.take (i - 1) = xs.tail := List.take_of_length_le (by simp; omega)
        exact ⟨.int .i64 ((xs.tail.take (i - 1)).foldl min m), res1 rfl rfl, by rw [e], rfl⟩


/-- Is a number below 0? -/
def lowB (l : List Int) : Bool := l.any fun x => decide (x < 0)
theorem low_of {xs : List Int} {m : Int} (hx : xs = m :: xs.tail) : decide (xs.tail.foldl min m < 0) = lowB xs := by
  rw [Bool.eq_iff_iff]
  simp only [decide_eq_true_eq, lowB, List.any_eq_true]
  obtain ⟨h1, h2⟩ := foldl_min_le xs.tail m
  constructor
  · intro h
    rcases foldl_min_mem xs.tail m with e | e
    · exact ⟨m, by rw [hx]; simp, by omega⟩
    · exact ⟨_, by rw [hx]; simp [e], h⟩
  · rintro ⟨x, hxm, hx0⟩
    rw [hx] at hxm
    rcases List.mem_cons.1 hxm with rfl | hm
    · omega
    · have := h2 x hm; omega

theorem low_f (A : SP) (a : Option Addr) (c : Nat) (xs : List Int) (hr : Rd A a (ints xs)) (hl : xs.length ≤ 1099511627776000) :
    Fn Try.prog 91 #[.slice a xs.length c] (A) (fun r B => r = .bool (lowB xs) ∧ A = B) := by
  refine fn_enter (args := [.slice a xs.length c]) Try.func91 rfl Try.ntmps91 (by simp) ?_
  refine tc_seq ?_
  refine tc_reg ?_
  refine tl_v rfl (o_assign rfl) ?_
  refine tl_nil ?_
  refine q_then_n ?_
  refine tc_seq ?_
  refine tc_reg ?_
  refine tl_v rfl (o_move rfl) ?_
  refine tl_v rfl (o_len Try.underlying37 rfl) ?_
  refine tl_v rfl (o_gtr rfl rfl) ?_
  refine tl_v rfl (o_move rfl) ?_
  refine tl_bool (d := 6) rfl (fun h => ?_) (fun h => ?_)
  · try simp only [decide_eq_true_eq, decide_eq_false_iff_not, Bool.not_eq_true', Bool.not_eq_false', Option.isNone_some, Option.isNone_none, Bool.not_true, Bool.not_false] at h
    obtain ⟨m, hx⟩ : ∃ m, xs = m :: xs.tail := by
      cases xs with
      | nil => simp at h
      | cons m t => exact ⟨m, rfl⟩
    refine tl_v rfl (o_move rfl) ?_
    refine tl_c rfl (o_call bd134 rfl (MinI_f A a c xs m hx hr hl)) ?_
    rintro _ _ ⟨rfl, rfl⟩
    refine tl_v rfl (o_lss rfl rfl) ?_
    refine tl_v rfl (by first | exact o_pick_t rfl rfl | exact o_pick_f rfl rfl | exact o_pick rfl rfl) ?_
    refine tl_v rfl (o_assign rfl) ?_
    refine tl_nil ?_
    refine q_then_n ?_
    refine tc_ret ?_
    exact ⟨.bool (decide (xs.tail.foldl min m < 0)), res1 rfl rfl, by rw [low_of hx], rfl⟩
  · try simp only [decide_eq_true_eq, decide_eq_false_iff_not, Bool.not_eq_true', Bool.not_eq_false', Option.isNone_some, Option.isNone_none, Bool.not_true, Bool.not_false] at h
    refine tl_skip rfl ?_
    refine tl_skip rfl ?_
    refine tl_skip rfl ?_
    refine tl_v rfl (by first | exact o_pick_t rfl rfl | exact o_pick_f rfl rfl | exact o_pick rfl rfl) ?_
    refine tl_v rfl (o_assign rfl) ?_
    refine tl_nil ?_
    refine q_then_n ?_
    refine tc_ret ?_
    have : xs = [] := List.eq_nil_of_length_eq_zero (by omega)
    subst this
    exact ⟨.bool false, res1 rfl rfl, rfl, rfl⟩

end Go.Vl

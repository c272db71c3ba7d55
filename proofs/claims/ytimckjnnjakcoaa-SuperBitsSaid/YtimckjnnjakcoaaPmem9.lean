/- Walks of package pmem: contents; the fence. Conditions: none. -/
import Derived.Test.YtimckjnnjakcoaaPmem8
set_option linter.unusedVariables false
set_option linter.unusedSimpArgs false
namespace Go.Vl
open Go Go.Proofs


theorem parts_len : ∀ {vs : List Value} {ls : List (List Nat)} {R : SP} {g : Gh} {w : World}, sat g w (R * Parts vs ls) → vs.length = ls.length
  | [], [], _, _, _, _ => rfl
  | v :: vs, x :: ls, R, g, w, h => by
    have : sat g w (R * Sl 1 v x.length (bys x) * Parts vs ls) := by rw [star_swap, star_assoc]; exact h
    rw [List.length_cons, List.length_cons, parts_len this]
  | [], _ :: _, _, _, _, h => by
    obtain ⟨_, ⟨x, y, _, _, _, hy⟩, _⟩ := h.hp
    exact hy.1.elim
  | _ :: _, [], _, _, _, h => by
    obtain ⟨_, ⟨x, y, _, _, _, hy⟩, _⟩ := h.hp
    exact hy.1.elim
/-- What Contents tells. -/
def ctS (i : Nat) (s : DevS) : List (List Nat) := (s.ls.getD i ⟨[], 0⟩).st.map lb
theorem ctS_at {i : Nat} {s : DevS} (h : i < s.ls.length) : ctS i s = s.ls[i].st.map lb := by unfold ctS; simp [List.getD, h]
theorem map_take_succ {α β : Type} (f : α → β) {l : List α} {i : Nat} (h : i < l.length) : (l.take (i + 1)).map f = (l.take i).map f ++ [f l[i]] := by
  rw [List.take_succ_eq_append_getElem h, List.map_append]; rfl

theorem ContentsNo_f (A : SP) (d bl : Nat) (svs : List Value) (av : Value) (s : DevS) (hR : DevR A d bl svs av s) (p : Int) (hp : -9223372036854775808 ≤ p ∧ p ≤ 9223372036854775807) (hno : p < 0 ∨ (s.ls.length : Int) ≤ p) :
    Fn Try.prog 35 #[.pointer (some ⟨d, 0, none⟩), .int .i64 p] (A) (fun r B => r = .slice none 0 0 ∧ A = B) := by
  refine fn_enter (args := [.pointer (some ⟨d, 0, none⟩), .int .i64 p]) Try.func35 rfl Try.ntmps35 (by simp) ?_
  have hpos := hR.wf.pos
  have htop := hR.wf.top
  refine tc_seq ?_
  refine tc_reg ?_
  refine tl_v rfl (o_assign rfl) ?_
  refine tl_nil ?_
  refine q_then_n ?_
  refine tc_seq ?_
  refine tc_seq ?_
  refine tc_reg ?_
  refine tl_v rfl (o_move rfl) ?_
  refine tl_c rfl (o_call bd93 rfl (none_f _ d bl s.ls.length s av hR.d hpos htop)) ?_
  rintro _ _ ⟨rfl, rfl⟩
  refine tl_v rfl (o_move rfl) ?_
  refine tl_bool (d := 10) rfl (fun h => ?_) (fun h => ?_)
  · (exfalso; first | (revert h; simp; done) | (revert h; simp; omega) | (simp at h; omega) | omega)
  · try simp only [decide_eq_true_eq, decide_eq_false_iff_not, Bool.not_eq_true', Bool.not_eq_false', Option.isNone_some, Option.isNone_none, Bool.not_true, Bool.not_false] at h
    refine tl_v rfl (o_move rfl) ?_
    refine tl_v rfl (o_lss rfl rfl) ?_
    refine tl_v rfl (by first | exact o_pick_t rfl rfl | exact o_pick_f rfl rfl | exact o_pick rfl rfl) ?_
    refine tl_v rfl (o_move rfl) ?_
    refine tl_bool (d := 14) rfl (fun h => ?_) (fun h => ?_)
    · try simp only [decide_eq_true_eq, decide_eq_false_iff_not, Bool.not_eq_true', Bool.not_eq_false', Option.isNone_some, Option.isNone_none, Bool.not_true, Bool.not_false] at h
      refine tl_skip rfl ?_
      refine tl_skip rfl ?_
      refine tl_skip rfl ?_
      refine tl_skip rfl ?_
      refine tl_skip rfl ?_
      refine tl_skip rfl ?_
      refine tl_skip rfl ?_
      refine tl_v rfl (by first | exact o_pick_t rfl rfl | exact o_pick_f rfl rfl | exact o_pick rfl rfl) ?_
      refine tl_nil ?_
      refine q_then_n ?_
      refine tc_cond_t rfl ?_
      refine tc_seq ?_
      refine tc_reg ?_
      refine tl_v rfl (o_assign rfl) ?_
      refine tl_nil ?_
      refine q_then_n ?_
      refine tc_ret ?_
      refine q_then_r ?_
      exact ⟨.slice none 0 0, res1 rfl rfl, rfl, rfl⟩
    · try simp only [decide_eq_true_eq, decide_eq_false_iff_not, Bool.not_eq_true', Bool.not_eq_false', Option.isNone_some, Option.isNone_none, Bool.not_true, Bool.not_false] at h
      refine tl_v rfl (o_move rfl) ?_
      refine tl_v rfl (o_move rfl) ?_
      refine tl_v rfl (o_nilCheck rfl) ?_
      refine tl_v rfl (o_fieldAddr (o := 0) Try.underlying97 rfl rfl sz95 rfl) ?_
      refine tl_v rfl (o_loadC p95 rfl (hR.d 0 _ rfl)) ?_
      refine tl_v rfl (o_len Try.underlying95 rfl) ?_
      refine tl_v rfl (o_geq rfl rfl) ?_
      refine tl_v rfl (by first | exact o_pick_t rfl rfl | exact o_pick_f rfl rfl | exact o_pick rfl rfl) ?_
      refine tl_nil ?_
      refine q_then_n ?_
      refine tc_cond rfl (fun h => ?_) (fun h => ?_)
      · try simp only [decide_eq_true_eq, decide_eq_false_iff_not, Bool.not_eq_true', Bool.not_eq_false', Option.isNone_some, Option.isNone_none, Bool.not_true, Bool.not_false] at h
        refine tc_seq ?_
        refine tc_reg ?_
        refine tl_v rfl (o_assign rfl) ?_
        refine tl_nil ?_
        refine q_then_n ?_
        refine tc_ret ?_
        refine q_then_r ?_
        exact ⟨.slice none 0 0, res1 rfl rfl, rfl, rfl⟩
      · (exfalso; first | (revert h; simp; done) | (revert h; simp; omega) | (simp at h; omega) | omega)

theorem Contents_f (A : SP) (d bl : Nat) (svs : List Value) (av : Value) (s : DevS) (hR : DevR A d bl svs av s) (q : Nat) (hq : q < s.ls.length) :
    Fn Try.prog 35 #[.pointer (some ⟨d, 0, none⟩), .int .i64 (q : Nat)] (A) (fun r B => ∃ X, B = A * X ∧ ∃ vs, X = Parts vs (ctS q s) * Sl 1 r (ctS q s).length vs) := by
  refine fn_enterW (args := [.pointer (some ⟨d, 0, none⟩), .int .i64 (q : Nat)]) Try.func35 rfl Try.ntmps35 (by simp) ?_
  have hpos := hR.wf.pos
  have htop := hR.wf.top
  obtain ⟨a, c, h1, h2, h3⟩ := hR.st q hq
  have hwl := hR.wf.line _ (List.getElem_mem hq)
  have hsm := hwl.small
  have hstl := stc_length hwl.eight
  have hb := hR.b (q * 2) (.slice a s.ls[q].st.length c) (by
      have := lcs_sv (vs := svs) (ls := s.ls) (i := q) hR.len (by have := hR.len; omega)
      rw [this]; rw [List.getElem?_eq_getElem (by have := hR.len; omega)] at h1; exact h1)
  have hct := ctS_at hq
  refine tc_seq ?_
  refine tc_reg ?_
  refine tl_v rfl (o_assign rfl) ?_
  refine tl_nil ?_
  refine q_then_n ?_
  refine tc_seq ?_
  refine tc_seq ?_
  refine tc_reg ?_
  refine tl_v rfl (o_move rfl) ?_
  refine tl_c rfl (o_call bd93 rfl (none_f _ d bl s.ls.length s av hR.d hpos htop)) ?_
  rintro _ _ ⟨rfl, rfl⟩
  refine tl_v rfl (o_move rfl) ?_
  refine tl_bool (d := 10) rfl (fun h => ?_) (fun h => ?_)
  · (exfalso; first | (revert h; simp; done) | (revert h; simp; omega) | (simp at h; omega) | omega)
  · try simp only [decide_eq_true_eq, decide_eq_false_iff_not, Bool.not_eq_true', Bool.not_eq_false', Option.isNone_some, Option.isNone_none, Bool.not_true, Bool.not_false] at h
    refine tl_v rfl (o_move rfl) ?_
    refine tl_v rfl (o_lss rfl rfl) ?_
    refine tl_v rfl (by first | exact o_pick_t rfl rfl | exact o_pick_f rfl rfl | exact o_pick rfl rfl) ?_
    refine tl_v rfl (o_move rfl) ?_
    refine tl_bool (d := 14) rfl (fun h => ?_) (fun h => ?_)
    · (exfalso; first | (revert h; simp; done) | (revert h; simp; omega) | (simp at h; omega) | omega)
    · try simp only [decide_eq_true_eq, decide_eq_false_iff_not, Bool.not_eq_true', Bool.not_eq_false', Option.isNone_some, Option.isNone_none, Bool.not_true, Bool.not_false] at h
      refine tl_v rfl (o_move rfl) ?_
      refine tl_v rfl (o_move rfl) ?_
      refine tl_v rfl (o_nilCheck rfl) ?_
      refine tl_v rfl (o_fieldAddr (o := 0) Try.underlying97 rfl rfl sz95 rfl) ?_
      refine tl_v rfl (o_loadC p95 rfl (hR.d 0 _ rfl)) ?_
      refine tl_v rfl (o_len Try.underlying95 rfl) ?_
      refine tl_v rfl (o_geq rfl rfl) ?_
      refine tl_v rfl (by first | exact o_pick_t rfl rfl | exact o_pick_f rfl rfl | exact o_pick rfl rfl) ?_
      refine tl_nil ?_
      refine q_then_n ?_
      refine tc_cond rfl (fun h => ?_) (fun h => ?_)
      · (exfalso; first | (revert h; simp; done) | (revert h; simp; omega) | (simp at h; omega) | omega)
      · try simp only [decide_eq_true_eq, decide_eq_false_iff_not, Bool.not_eq_true', Bool.not_eq_false', Option.isNone_some, Option.isNone_none, Bool.not_true, Bool.not_false] at h
        refine tc_skip ?_
        refine q_then_n ?_
        refine tc_seq ?_
        refine tc_reg ?_
        refine tl_v rfl (o_assign rfl) ?_
        refine tl_nil ?_
        refine q_then_n ?_
        refine tc_seq ?_
        refine tc_seq ?_
        refine tc_reg ?_
        refine tl_v rfl (o_move rfl) ?_
        refine tl_v rfl (o_nilCheck rfl) ?_
        refine tl_v rfl (o_fieldAddr (o := 0) Try.underlying97 rfl rfl sz95 rfl) ?_
        refine tl_v rfl (o_loadC p95 rfl (hR.d 0 _ rfl)) ?_
        refine tl_v rfl (o_move rfl) ?_
        refine tl_v rfl (o_indexAddrN Try.underlying95 sz150 rfl rfl hq) ?_
        refine tl_v rfl (o_fieldAddr (o := 0) Try.underlying150 rfl rfl sz148 rfl) ?_
        refine tl_v rfl (o_loadC p148 rfl hb) ?_
        refine tl_v rfl (o_len Try.underlying148 rfl) ?_
        refine tl_pre (fun _ _ h => sl_nil (k := 1) h) ?_
        refine tl_eq (show _ = A * Parts [] [] * Sl 1 (.slice none 0 0) 0 [] by rw [show Parts [] [] = emp from rfl, star_emp]) ?_
        refine tl_v rfl (o_move rfl) ?_
        refine tl_nil ?_
        refine q_then_n ?_
        refine tc_block ?_
        refine tc_loop (fun j ρ B => ∃ (i : Nat) (v : Value) (vs : List Value), i ≤ s.ls[q].st.length ∧ vs.length = i ∧ j = s.ls[q].st.length - i ∧ ρ 5 = v ∧ ρ 30 = .slice a s.ls[q].st.length c ∧ ρ 31 = .int .i64 s.ls[q].st.length ∧ ρ 32 = .int .i64 (i : Nat) ∧ B = A * Parts vs ((s.ls[q].st.take i).map lb) * Sl 1 v i vs) (m := s.ls[q].st.length) ?_ ?_
        · exact ⟨0, .slice none 0 0, [], by omega, rfl, rfl, rfl, rfl, rfl, rfl, rfl⟩
        · intro k ρ B hI
          obtain ⟨i, v, vs, hi, hvs, rfl, h5, h30, h31, h32, rfl⟩ := hI
          refine tc_env (d := 5) h5 ?_
          refine tc_env (d := 30) h30 ?_
          refine tc_env (d := 31) h31 ?_
          refine tc_env (d := 32) h32 ?_
          refine tc_seq ?_
          refine tc_reg ?_
          refine tl_v rfl (o_lss rfl rfl) ?_
          refine tl_nil ?_
          refine q_then_n ?_
          refine tc_seq ?_
          refine tc_cond rfl (fun h => ?_) (fun h => ?_)
          · simp only [decide_eq_true_eq] at h
            have hi' : i < s.ls[q].st.length := by omega
            obtain ⟨b, o, rfl, hcs⟩ := h3.some (by omega)
            have g1 := hcs.sub (i * 8) 8 (stc_at hwl.eight hi')
            have hl8 : (wds s.ls[q].st[i]).length = 8 := by rw [wds_length]; exact hwl.eight _ (List.getElem_mem _)
            have hb64 : (lb s.ls[q].st[i]).length = 64 := by rw [lb_length, hwl.eight _ (List.getElem_mem _)]
            refine tc_skip ?_
            refine q_then_n ?_
            refine tc_seq ?_
            refine tc_block ?_
            refine tc_seq ?_
            refine tc_reg ?_
            refine tl_v rfl (o_indexAddrN Try.underlying148 sz147 rfl rfl hi') ?_
            refine tl_v rfl (o_loadNC a147 sz147 rfl hl8 g1.left.left) ?_
            refine tl_x rfl (o_alloc z147 rfl) ?_
            rintro _ _ ⟨b7, rfl, rfl⟩
            refine tl_u rfl (o_storeN (l' := wds s.ls[q].st[i]) sz147 rfl rfl hl8 (wds_all _) (by simp) (splice_all (by rw [hl8]; rfl)) upd_here) ?_
            refine tl_nil ?_
            refine q_then_n ?_
            refine tc_reg ?_
            refine tl_v rfl (o_move rfl) ?_
            refine tl_v rfl (o_loadNC a147 sz147 rfl hl8 (cells_all has_here hl8)) ?_
            refine tl_c rfl (o_call bd90 rfl (bytes_f _ s.ls[q].st[i] (hwl.eight _ (List.getElem_mem _)) (hwl.words _ (List.getElem_mem _)))) ?_
            rintro u38 _ ⟨_, rfl, rfl⟩
            refine tl_have (fun _ _ h => sl_have h) fun ⟨_, _, hu, _, _, _⟩ => ?_
            have hu1 : oneC u38 = true := by rw [hu]; rfl
            refine tl_pre (fun _ _ h => h.drop2) ?_
            refine tl_eq (star_swap _ _ _) ?_
            refine tl_x rfl (o_buildSlice1 (v := u38) Try.underlying33 sz28 z28 rfl hu1) ?_
            rintro _ _ ⟨b39, rfl, rfl⟩
            refine tl_x rfl (o_append1 Try.underlying33 Try.underlying33 sz28 by28 z28 rfl (by decide) (by decide) rfl rfl rfl rfl (by simp [hu1]) (by omega)) ?_
            rintro u40 _ rfl
            refine tl_v rfl (o_assign rfl) ?_
            refine tl_nil ?_
            refine q_block_n (q_then_n ?_)
            refine tc_reg ?_
            refine tl_v rfl (by first | exact o_addI rfl rfl (by omega) | exact o_add rfl rfl) ?_
            refine tl_v rfl (o_move rfl) ?_
            refine tl_nil ?_
            refine q_then_n ?_
            exact ⟨_, by omega, i + 1, u40, vs ++ [u38], by omega, by simp [hvs], rfl, rfl, rfl, rfl, rfl, by rw [map_take_succ lb hi', parts_snoc (by simp; omega), hb64, ← star_assoc]⟩
          · try simp only [decide_eq_true_eq, decide_eq_false_iff_not, Bool.not_eq_true', Bool.not_eq_false', Option.isNone_some, Option.isNone_none, Bool.not_true, Bool.not_false] at h
            refine tc_exit ?_
            refine q_then_e (q_then_e (q_block_x (q_then_n ?_)))
            refine tc_seq ?_
            refine tc_reg ?_
            refine tl_v rfl (o_move rfl) ?_
            refine tl_v rfl (o_assign rfl) ?_
            refine tl_nil ?_
            refine q_then_n ?_
            refine tc_ret ?_
            obtain rfl : i = s.ls[q].st.length := by omega
            rw [hct, List.length_map]
            rw [List.take_length]
            exact ⟨v, _, res1 rfl rfl, fun _ _ h => h, _, star_assoc _ _ _, vs, rfl⟩

end Go.Vl

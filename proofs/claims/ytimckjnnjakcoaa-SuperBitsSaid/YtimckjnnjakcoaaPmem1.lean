/- Walks of package pmem: what only reads. Conditions: none. -/
import Derived.Test.YtimckjnnjakcoaaDev
set_option linter.unusedVariables false
set_option linter.unusedSimpArgs false
namespace Go.Vl
open Go Go.Proofs

theorem none_f (A : SP) (d bl n : Nat) (s : DevS) (av : Value) (hd : Cells A d 0 (dcs bl n s av)) (hn : 0 < n) (hn2 : n ≤ 65536) :
    Fn Try.prog 93 #[.pointer (some ⟨d, 0, none⟩)] (A) (fun r B => r = .bool false ∧ A = B) := by
  refine fn_enter (args := [.pointer (some ⟨d, 0, none⟩)]) Try.func93 rfl Try.ntmps93 (by simp) ?_
  refine tc_seq ?_
  refine tc_reg ?_
  refine tl_v rfl (o_assign rfl) ?_
  refine tl_nil ?_
  refine q_then_n ?_
  refine tc_seq ?_
  refine tc_reg ?_
  refine tl_v rfl (o_move rfl) ?_
  refine tl_v rfl (o_eqp Try.underlying41 rfl rfl) ?_
  refine tl_v rfl (o_move rfl) ?_
  refine tl_bool (d := 5) rfl (fun h => ?_) (fun h => ?_)
  · (exfalso; first | (revert h; simp; done) | (revert h; simp; omega) | (simp at h; omega) | omega)
  · try simp only [decide_eq_true_eq, decide_eq_false_iff_not, Bool.not_eq_true', Bool.not_eq_false', Option.isNone_some, Option.isNone_none, Bool.not_true, Bool.not_false] at h
    refine tl_v rfl (o_move rfl) ?_
    refine tl_v rfl (o_nilCheck rfl) ?_
    refine tl_v rfl (o_fieldAddr (o := 0) Try.underlying97 rfl rfl sz95 rfl) ?_
    refine tl_v rfl (o_loadC p95 rfl (hd 0 _ rfl)) ?_
    refine tl_v rfl (o_len Try.underlying95 rfl) ?_
    refine tl_v rfl (o_eqi rfl rfl) ?_
    refine tl_v rfl (by first | exact o_pick_t rfl rfl | exact o_pick_f rfl rfl | exact o_pick rfl rfl) ?_
    refine tl_v rfl (o_assign rfl) ?_
    refine tl_nil ?_
    refine q_then_n ?_
    refine tc_ret ?_
    exact ⟨.bool (decide ((n : Int) = 0)), res1 rfl rfl, by congr 1; simp; omega, rfl⟩

theorem Size_f (A : SP) (d bl n : Nat) (s : DevS) (av : Value) (hd : Cells A d 0 (dcs bl n s av)) (hn : 0 < n) (hn2 : n ≤ 65536) :
    Fn Try.prog 94 #[.pointer (some ⟨d, 0, none⟩)] (A) (fun r B => r = .int .i64 ((n : Int) * 64) ∧ A = B) := by
  refine fn_enter (args := [.pointer (some ⟨d, 0, none⟩)]) Try.func94 rfl Try.ntmps94 (by simp) ?_
  refine tc_seq ?_
  refine tc_reg ?_
  refine tl_v rfl (o_assign rfl) ?_
  refine tl_nil ?_
  refine q_then_n ?_
  refine tc_seq ?_
  refine tc_seq ?_
  refine tc_reg ?_
  refine tl_v rfl (o_move rfl) ?_
  refine tl_c rfl (o_call bd93 rfl (none_f _ d bl n s av hd hn hn2)) ?_
  rintro _ _ ⟨rfl, rfl⟩
  refine tl_nil ?_
  refine q_then_n ?_
  refine tc_cond rfl (fun h => ?_) (fun h => ?_)
  · (exfalso; first | (revert h; simp; done) | (revert h; simp; omega) | (simp at h; omega) | omega)
  · try simp only [decide_eq_true_eq, decide_eq_false_iff_not, Bool.not_eq_true', Bool.not_eq_false', Option.isNone_some, Option.isNone_none, Bool.not_true, Bool.not_false] at h
    refine tc_skip ?_
    refine q_then_n ?_
    refine tc_seq ?_
    refine tc_reg ?_
    refine tl_v rfl (o_move rfl) ?_
    refine tl_v rfl (o_nilCheck rfl) ?_
    refine tl_v rfl (o_fieldAddr (o := 0) Try.underlying97 rfl rfl sz95 rfl) ?_
    refine tl_v rfl (o_loadC p95 rfl (hd 0 _ rfl)) ?_
    refine tl_v rfl (o_len Try.underlying95 rfl) ?_
    refine tl_v rfl (by first | exact o_mulI rfl rfl (by omega) | exact o_mul rfl rfl) ?_
    refine tl_v rfl (o_assign rfl) ?_
    refine tl_nil ?_
    refine q_then_n ?_
    refine tc_ret ?_
    exact ⟨.int .i64 ((n : Int) * 64), res1 rfl rfl, rfl, rfl⟩

theorem Ops_f (A : SP) (d bl n : Nat) (s : DevS) (av : Value) (hd : Cells A d 0 (dcs bl n s av)) (hn : 0 < n) (hn2 : n ≤ 65536) :
    Fn Try.prog 41 #[.pointer (some ⟨d, 0, none⟩)] (A) (fun r B => r = .int .i64 s.ops ∧ A = B) := by
  refine fn_enter (args := [.pointer (some ⟨d, 0, none⟩)]) Try.func41 rfl Try.ntmps41 (by simp) ?_
  refine tc_seq ?_
  refine tc_reg ?_
  refine tl_v rfl (o_assign rfl) ?_
  refine tl_nil ?_
  refine q_then_n ?_
  refine tc_seq ?_
  refine tc_seq ?_
  refine tc_reg ?_
  refine tl_v rfl (o_move rfl) ?_
  refine tl_c rfl (o_call bd93 rfl (none_f _ d bl n s av hd hn hn2)) ?_
  rintro _ _ ⟨rfl, rfl⟩
  refine tl_nil ?_
  refine q_then_n ?_
  refine tc_cond rfl (fun h => ?_) (fun h => ?_)
  · (exfalso; first | (revert h; simp; done) | (revert h; simp; omega) | (simp at h; omega) | omega)
  · try simp only [decide_eq_true_eq, decide_eq_false_iff_not, Bool.not_eq_true', Bool.not_eq_false', Option.isNone_some, Option.isNone_none, Bool.not_true, Bool.not_false] at h
    refine tc_skip ?_
    refine q_then_n ?_
    refine tc_seq ?_
    refine tc_reg ?_
    refine tl_v rfl (o_move rfl) ?_
    refine tl_v rfl (o_nilCheck rfl) ?_
    refine tl_v rfl (o_fieldAddr (o := 1) Try.underlying97 rfl rfl sz3 rfl) ?_
    refine tl_v rfl (o_loadC p3 rfl (hd 1 _ rfl)) ?_
    refine tl_v rfl (o_assign rfl) ?_
    refine tl_nil ?_
    refine q_then_n ?_
    refine tc_ret ?_
    exact ⟨.int .i64 s.ops, res1 rfl rfl, rfl, rfl⟩

theorem Off_f (A : SP) (d bl n : Nat) (s : DevS) (av : Value) (hd : Cells A d 0 (dcs bl n s av)) (hn : 0 < n) (hn2 : n ≤ 65536) :
    Fn Try.prog 31 #[.pointer (some ⟨d, 0, none⟩)] (A) (fun r B => r = .bool s.off ∧ A = B) := by
  refine fn_enter (args := [.pointer (some ⟨d, 0, none⟩)]) Try.func31 rfl Try.ntmps31 (by simp) ?_
  refine tc_seq ?_
  refine tc_reg ?_
  refine tl_v rfl (o_assign rfl) ?_
  refine tl_nil ?_
  refine q_then_n ?_
  refine tc_seq ?_
  refine tc_reg ?_
  refine tl_v rfl (o_move rfl) ?_
  refine tl_c rfl (o_call bd93 rfl (none_f _ d bl n s av hd hn hn2)) ?_
  rintro _ _ ⟨rfl, rfl⟩
  refine tl_v rfl (o_not rfl) ?_
  refine tl_v rfl (o_move rfl) ?_
  refine tl_bool (d := 6) rfl (fun h => ?_) (fun h => ?_)
  · try simp only [decide_eq_true_eq, decide_eq_false_iff_not, Bool.not_eq_true', Bool.not_eq_false', Option.isNone_some, Option.isNone_none, Bool.not_true, Bool.not_false] at h
    refine tl_v rfl (o_move rfl) ?_
    refine tl_v rfl (o_nilCheck rfl) ?_
    refine tl_v rfl (o_fieldAddr (o := 4) Try.underlying97 rfl rfl sz4 rfl) ?_
    refine tl_v rfl (o_loadC p4 rfl (hd 4 _ rfl)) ?_
    refine tl_v rfl (by first | exact o_pick_t rfl rfl | exact o_pick_f rfl rfl | exact o_pick rfl rfl) ?_
    refine tl_v rfl (o_assign rfl) ?_
    refine tl_nil ?_
    refine q_then_n ?_
    refine tc_ret ?_
    exact ⟨.bool s.off, res1 rfl rfl, rfl, rfl⟩
  · (exfalso; first | (revert h; simp; done) | (revert h; simp; omega) | (simp at h; omega) | omega)


/-- What a call answers that does something with n bytes from at on. -/
def rdy (n : Nat) (off : Bool) (p m : Int) : Int := if off then 5 else if p < 0 ∨ m < 0 ∨ (n : Int) * 64 < p ∨ (n : Int) * 64 - p < m then 6 else 0

theorem ready_f (A : SP) (d bl n : Nat) (s : DevS) (av : Value) (hd : Cells A d 0 (dcs bl n s av)) (hn : 0 < n) (hn2 : n ≤ 65536) (p m : Int) (hp : -9223372036854775808 ≤ p ∧ p ≤ 9223372036854775807) (hm : -9223372036854775808 ≤ m ∧ m ≤ 9223372036854775807) :
    Fn Try.prog 88 #[.pointer (some ⟨d, 0, none⟩), .int .i64 p, .int .i64 m] (A) (fun r B => r = .int .i64 (rdy n s.off p m) ∧ A = B) := by
  refine fn_enter (args := [.pointer (some ⟨d, 0, none⟩), .int .i64 p, .int .i64 m]) Try.func88 rfl Try.ntmps88 (by simp) ?_
  refine tc_seq ?_
  refine tc_reg ?_
  refine tl_v rfl (o_assign rfl) ?_
  refine tl_nil ?_
  refine q_then_n ?_
  refine tc_seq ?_
  refine tc_block ?_
  refine tc_seq ?_
  refine tc_reg ?_
  refine tl_v rfl (o_move rfl) ?_
  refine tl_c rfl (o_call bd93 rfl (none_f _ d bl n s av hd hn hn2)) ?_
  rintro _ _ ⟨rfl, rfl⟩
  refine tl_v rfl (o_assign rfl) ?_
  refine tl_nil ?_
  refine q_then_n ?_
  refine tc_cond rfl (fun h => ?_) (fun h => ?_)
  · (exfalso; first | (revert h; simp; done) | (revert h; simp; omega) | (simp at h; omega) | omega)
  · try simp only [decide_eq_true_eq, decide_eq_false_iff_not, Bool.not_eq_true', Bool.not_eq_false', Option.isNone_some, Option.isNone_none, Bool.not_true, Bool.not_false] at h
    refine tc_seq ?_
    refine tc_reg ?_
    refine tl_v rfl (o_move rfl) ?_
    refine tl_v rfl (o_nilCheck rfl) ?_
    refine tl_v rfl (o_fieldAddr (o := 4) Try.underlying97 rfl rfl sz4 rfl) ?_
    refine tl_v rfl (o_loadC p4 rfl (hd 4 _ rfl)) ?_
    refine tl_v rfl (o_assign rfl) ?_
    refine tl_nil ?_
    refine q_then_n ?_
    refine tc_cond rfl (fun h => ?_) (fun h => ?_)
    · try simp only [decide_eq_true_eq, decide_eq_false_iff_not, Bool.not_eq_true', Bool.not_eq_false', Option.isNone_some, Option.isNone_none, Bool.not_true, Bool.not_false] at h
      refine tc_seq ?_
      refine tc_reg ?_
      refine tl_v rfl (o_assign rfl) ?_
      refine tl_nil ?_
      refine q_then_n ?_
      refine tc_ret ?_
      refine q_block_r (q_then_r ?_)
      exact ⟨.int .i64 5, res1 rfl rfl, by simp [rdy, h], rfl⟩
    · try simp only [decide_eq_true_eq, decide_eq_false_iff_not, Bool.not_eq_true', Bool.not_eq_false', Option.isNone_some, Option.isNone_none, Bool.not_true, Bool.not_false] at h
      refine tc_seq ?_
      refine tc_reg ?_
      refine tl_v rfl (o_move rfl) ?_
      refine tl_v rfl (o_lss rfl rfl) ?_
      refine tl_v rfl (o_move rfl) ?_
      refine tl_bool (d := 18) rfl (fun h => ?_) (fun h => ?_)
      · try simp only [decide_eq_true_eq, decide_eq_false_iff_not, Bool.not_eq_true', Bool.not_eq_false', Option.isNone_some, Option.isNone_none, Bool.not_true, Bool.not_false] at h
        refine tl_skip rfl ?_
        refine tl_skip rfl ?_
        refine tl_v rfl (by first | exact o_pick_t rfl rfl | exact o_pick_f rfl rfl | exact o_pick rfl rfl) ?_
        refine tl_v rfl (o_move rfl) ?_
        refine tl_skip rfl ?_
        refine tl_skip rfl ?_
        refine tl_skip rfl ?_
        refine tl_skip rfl ?_
        refine tl_v rfl (by first | exact o_pick_t rfl rfl | exact o_pick_f rfl rfl | exact o_pick rfl rfl) ?_
        refine tl_v rfl (o_move rfl) ?_
        refine tl_skip rfl ?_
        refine tl_skip rfl ?_
        refine tl_skip rfl ?_
        refine tl_skip rfl ?_
        refine tl_skip rfl ?_
        refine tl_skip rfl ?_
        refine tl_v rfl (by first | exact o_pick_t rfl rfl | exact o_pick_f rfl rfl | exact o_pick rfl rfl) ?_
        refine tl_v rfl (o_assign rfl) ?_
        refine tl_nil ?_
        refine q_then_n ?_
        refine tc_cond_t rfl ?_
        refine tc_seq ?_
        refine tc_reg ?_
        refine tl_v rfl (o_assign rfl) ?_
        refine tl_nil ?_
        refine q_then_n ?_
        refine tc_ret ?_
        refine q_block_r (q_then_r ?_)
        first
          | exact ⟨.int .i64 6, res1 rfl rfl, by unfold rdy; rw [if_neg (by simp [*]), if_pos (by omega)], rfl⟩
          | exact ⟨.int .i64 0, res1 rfl rfl, by unfold rdy; rw [if_neg (by simp [*]), if_neg (by omega)], rfl⟩
      · try simp only [decide_eq_true_eq, decide_eq_false_iff_not, Bool.not_eq_true', Bool.not_eq_false', Option.isNone_some, Option.isNone_none, Bool.not_true, Bool.not_false] at h
        refine tl_v rfl (o_move rfl) ?_
        refine tl_v rfl (o_lss rfl rfl) ?_
        refine tl_v rfl (by first | exact o_pick_t rfl rfl | exact o_pick_f rfl rfl | exact o_pick rfl rfl) ?_
        refine tl_v rfl (o_move rfl) ?_
        refine tl_bool (d := 22) rfl (fun h => ?_) (fun h => ?_)
        · try simp only [decide_eq_true_eq, decide_eq_false_iff_not, Bool.not_eq_true', Bool.not_eq_false', Option.isNone_some, Option.isNone_none, Bool.not_true, Bool.not_false] at h
          refine tl_skip rfl ?_
          refine tl_skip rfl ?_
          refine tl_skip rfl ?_
          refine tl_skip rfl ?_
          refine tl_v rfl (by first | exact o_pick_t rfl rfl | exact o_pick_f rfl rfl | exact o_pick rfl rfl) ?_
          refine tl_v rfl (o_move rfl) ?_
          refine tl_skip rfl ?_
          refine tl_skip rfl ?_
          refine tl_skip rfl ?_
          refine tl_skip rfl ?_
          refine tl_skip rfl ?_
          refine tl_skip rfl ?_
          refine tl_v rfl (by first | exact o_pick_t rfl rfl | exact o_pick_f rfl rfl | exact o_pick rfl rfl) ?_
          refine tl_v rfl (o_assign rfl) ?_
          refine tl_nil ?_
          refine q_then_n ?_
          refine tc_cond_t rfl ?_
          refine tc_seq ?_
          refine tc_reg ?_
          refine tl_v rfl (o_assign rfl) ?_
          refine tl_nil ?_
          refine q_then_n ?_
          refine tc_ret ?_
          refine q_block_r (q_then_r ?_)
          first
            | exact ⟨.int .i64 6, res1 rfl rfl, by unfold rdy; rw [if_neg (by simp [*]), if_pos (by omega)], rfl⟩
            | exact ⟨.int .i64 0, res1 rfl rfl, by unfold rdy; rw [if_neg (by simp [*]), if_neg (by omega)], rfl⟩
        · try simp only [decide_eq_true_eq, decide_eq_false_iff_not, Bool.not_eq_true', Bool.not_eq_false', Option.isNone_some, Option.isNone_none, Bool.not_true, Bool.not_false] at h
          refine tl_v rfl (o_move rfl) ?_
          refine tl_v rfl (o_move rfl) ?_
          refine tl_c rfl (o_call bd94 rfl (Size_f _ d bl n s av hd hn hn2)) ?_
          rintro _ _ ⟨rfl, rfl⟩
          refine tl_v rfl (o_gtr rfl rfl) ?_
          refine tl_v rfl (by first | exact o_pick_t rfl rfl | exact o_pick_f rfl rfl | exact o_pick rfl rfl) ?_
          refine tl_v rfl (o_move rfl) ?_
          refine tl_bool (d := 28) rfl (fun h => ?_) (fun h => ?_)
          · try simp only [decide_eq_true_eq, decide_eq_false_iff_not, Bool.not_eq_true', Bool.not_eq_false', Option.isNone_some, Option.isNone_none, Bool.not_true, Bool.not_false] at h
            refine tl_skip rfl ?_
            refine tl_skip rfl ?_
            refine tl_skip rfl ?_
            refine tl_skip rfl ?_
            refine tl_skip rfl ?_
            refine tl_skip rfl ?_
            refine tl_v rfl (by first | exact o_pick_t rfl rfl | exact o_pick_f rfl rfl | exact o_pick rfl rfl) ?_
            refine tl_v rfl (o_assign rfl) ?_
            refine tl_nil ?_
            refine q_then_n ?_
            refine tc_cond_t rfl ?_
            refine tc_seq ?_
            refine tc_reg ?_
            refine tl_v rfl (o_assign rfl) ?_
            refine tl_nil ?_
            refine q_then_n ?_
            refine tc_ret ?_
            refine q_block_r (q_then_r ?_)
            first
              | exact ⟨.int .i64 6, res1 rfl rfl, by unfold rdy; rw [if_neg (by simp [*]), if_pos (by omega)], rfl⟩
              | exact ⟨.int .i64 0, res1 rfl rfl, by unfold rdy; rw [if_neg (by simp [*]), if_neg (by omega)], rfl⟩
          · try simp only [decide_eq_true_eq, decide_eq_false_iff_not, Bool.not_eq_true', Bool.not_eq_false', Option.isNone_some, Option.isNone_none, Bool.not_true, Bool.not_false] at h
            refine tl_v rfl (o_move rfl) ?_
            refine tl_v rfl (o_move rfl) ?_
            refine tl_c rfl (o_call bd94 rfl (Size_f _ d bl n s av hd hn hn2)) ?_
            rintro _ _ ⟨rfl, rfl⟩
            refine tl_v rfl (o_move rfl) ?_
            refine tl_v rfl (by first | exact o_subI rfl rfl (by omega) | exact o_sub rfl rfl) ?_
            refine tl_v rfl (o_gtr rfl rfl) ?_
            refine tl_v rfl (by first | exact o_pick_t rfl rfl | exact o_pick_f rfl rfl | exact o_pick rfl rfl) ?_
            refine tl_v rfl (o_assign rfl) ?_
            refine tl_nil ?_
            refine q_then_n ?_
            refine tc_cond rfl (fun h => ?_) (fun h => ?_)
            · try simp only [decide_eq_true_eq, decide_eq_false_iff_not, Bool.not_eq_true', Bool.not_eq_false', Option.isNone_some, Option.isNone_none, Bool.not_true, Bool.not_false] at h
              refine tc_seq ?_
              refine tc_reg ?_
              refine tl_v rfl (o_assign rfl) ?_
              refine tl_nil ?_
              refine q_then_n ?_
              refine tc_ret ?_
              refine q_block_r (q_then_r ?_)
              first
                | exact ⟨.int .i64 6, res1 rfl rfl, by unfold rdy; rw [if_neg (by simp [*]), if_pos (by omega)], rfl⟩
                | exact ⟨.int .i64 0, res1 rfl rfl, by unfold rdy; rw [if_neg (by simp [*]), if_neg (by omega)], rfl⟩
            · try simp only [decide_eq_true_eq, decide_eq_false_iff_not, Bool.not_eq_true', Bool.not_eq_false', Option.isNone_some, Option.isNone_none, Bool.not_true, Bool.not_false] at h
              refine tc_skip ?_
              refine q_block_n (q_then_n ?_)
              refine tc_seq ?_
              refine tc_reg ?_
              refine tl_v rfl (o_assign rfl) ?_
              refine tl_nil ?_
              refine q_then_n ?_
              refine tc_ret ?_
              first
                | exact ⟨.int .i64 6, res1 rfl rfl, by unfold rdy; rw [if_neg (by simp [*]), if_pos (by omega)], rfl⟩
                | exact ⟨.int .i64 0, res1 rfl rfl, by unfold rdy; rw [if_neg (by simp [*]), if_neg (by omega)], rfl⟩

end Go.Vl

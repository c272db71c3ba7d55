/- Walks of the small helpers of vellumref00. Conditions: none. -/
import Derived.Test.YtimckjnnjakcoaaTypes
import Derived.Test.YtimckjnnjakcoaaSl
import Derived.Test.YtimckjnnjakcoaaProg
set_option linter.unusedVariables false
set_option linter.unusedSimpArgs false
namespace Go.Vl
open Go Go.Proofs


theorem take_succ_eq {xs ys : List Nat} {i : Nat} (h : xs.take i = ys.take i) (hi : i < xs.length) (hj : i < ys.length) (e : ((xs[i] : Nat) : Int) = ((ys[i] : Nat) : Int)) : xs.take (i + 1) = ys.take (i + 1) := by
  rw [List.take_succ_eq_append_getElem hi, List.take_succ_eq_append_getElem hj, h]
  have : xs[i] = ys[i] := by exact_mod_cast e
  rw [this]
theorem take_all {xs ys : List Nat} {i : Nat} (h : xs.take i = ys.take i) (hi : xs.length ≤ i) (hj : ys.length ≤ i) : xs = ys := by
  rwa [List.take_of_length_le hi, List.take_of_length_le hj] at h

theorem EqBytes_f (A : SP) (a1 a2 : Option Addr) (c1 c2 : Nat) (xs ys : List Nat) (h1 : Rd A a1 (bys xs)) (h2 : Rd A a2 (bys ys)) (hx : xs.length ≤ 4611686018427387904) (hy : ys.length ≤ 4611686018427387904) :
    Fn Try.prog 22 #[.slice a1 xs.length c1, .slice a2 ys.length c2] (A) (fun r B => r = .bool (decide (xs = ys)) ∧ A = B) := by
  refine fn_enter (args := [.slice a1 xs.length c1, .slice a2 ys.length c2]) Try.func22 rfl Try.ntmps22 (by simp) ?_
  refine tc_seq ?_
  refine tc_reg ?_
  refine tl_v rfl (o_assign rfl) ?_
  refine tl_nil ?_
  refine q_then_n ?_
  refine tc_seq ?_
  refine tc_seq ?_
  refine tc_reg ?_
  refine tl_v rfl (o_move rfl) ?_
  refine tl_v rfl (o_len Try.underlying28 rfl) ?_
  refine tl_v rfl (o_move rfl) ?_
  refine tl_v rfl (o_len Try.underlying28 rfl) ?_
  refine tl_v rfl (o_nei rfl rfl) ?_
  refine tl_nil ?_
  refine q_then_n ?_
  refine tc_cond rfl (fun h => ?_) (fun h => ?_)
  · try simp only [decide_eq_true_eq, decide_eq_false_iff_not, Bool.not_eq_true', Bool.not_eq_false', Option.isNone_some, Option.isNone_none, Bool.not_true, Bool.not_false] at h
    refine tc_seq ?_
    refine tc_reg ?_
    refine tl_v rfl (o_assign rfl) ?_
    refine tl_nil ?_
    refine q_then_n ?_
    refine tc_ret ?_
    refine q_then_r ?_
    exact ⟨.bool false, res1 rfl rfl, by congr 1; simp; intro e; subst e; exact h rfl, rfl⟩
  · try simp only [decide_eq_true_eq, decide_eq_false_iff_not, Bool.not_eq_true', Bool.not_eq_false', Option.isNone_some, Option.isNone_none, Bool.not_true, Bool.not_false] at h
    refine tc_skip ?_
    refine q_then_n ?_
    refine tc_seq ?_
    refine tc_seq ?_
    refine tc_reg ?_
    refine tl_v rfl (o_assign rfl) ?_
    refine tl_nil ?_
    refine q_then_n ?_
    refine tc_block ?_
    refine tc_loop (fun k ρ B => B = A ∧ ∃ i : Nat, i ≤ xs.length ∧ k = xs.length - i ∧ ρ 0 = .slice a1 xs.length c1 ∧ ρ 1 = .slice a2 ys.length c2 ∧ ρ 5 = .int .i64 i ∧ xs.take i = ys.take i) (m := xs.length) ?_ ?_
    · exact ⟨rfl, 0, Nat.zero_le _, rfl, rfl, rfl, rfl, rfl⟩
    · intro k ρ B hI
      obtain ⟨rfl, i, hi, rfl, h0, h1', h5, hp⟩ := hI
      refine tc_env (d := 0) h0 ?_
      refine tc_env (d := 1) h1' ?_
      refine tc_env (d := 5) h5 ?_
      refine tc_seq ?_
      refine tc_seq ?_
      refine tc_reg ?_
      refine tl_v rfl (o_move rfl) ?_
      refine tl_v rfl (o_move rfl) ?_
      refine tl_v rfl (o_len Try.underlying28 rfl) ?_
      refine tl_v rfl (o_lss rfl rfl) ?_
      refine tl_nil ?_
      refine q_then_n ?_
      refine tc_cond rfl (fun h => ?_) (fun h => ?_)
      · try simp only [decide_eq_true_eq, decide_eq_false_iff_not, Bool.not_eq_true', Bool.not_eq_false', Option.isNone_some, Option.isNone_none, Bool.not_true, Bool.not_false] at h
        refine tc_skip ?_
        refine q_then_n ?_
        refine tc_seq ?_
        refine tc_block ?_
        refine tc_seq ?_
        refine tc_regq mo (by kernel_rfl) ?_
        obtain ⟨b1, o1, rfl, hc1⟩ := h1.some (by rw [bys_length]; omega)
        obtain ⟨b2, o2, rfl, hc2⟩ := h2.some (by rw [bys_length]; omega)
        have g1 := hc1 i _ (bys_at (by omega))
        have g2 := hc2 i _ (bys_at (show i < ys.length by omega))
        refine ql_v rfl (o_move rfl) ?_
        refine ql_v rfl (o_move rfl) ?_
        refine ql_v rfl (by first | exact o_indexAddrN1 Try.underlying28 sz5 rfl rfl (by omega) | exact o_indexAddr1 Try.underlying28 sz5 rfl rfl (by omega) (by omega)) ?_
        refine ql_v rfl (o_loadC p5 rfl g1) ?_
        refine ql_v rfl (o_move rfl) ?_
        refine ql_v rfl (o_move rfl) ?_
        refine ql_v rfl (by first | exact o_indexAddrN1 Try.underlying28 sz5 rfl rfl (by omega) | exact o_indexAddr1 Try.underlying28 sz5 rfl rfl (by omega) (by omega)) ?_
        refine ql_v rfl (o_loadC p5 rfl g2) ?_
        refine ql_v rfl (o_nei rfl rfl) ?_
        refine ql_nil ?_
        refine q_then_n ?_
        refine tc_cond rfl (fun h => ?_) (fun h => ?_)
        · try simp only [decide_eq_true_eq, decide_eq_false_iff_not, Bool.not_eq_true', Bool.not_eq_false', Option.isNone_some, Option.isNone_none, Bool.not_true, Bool.not_false] at h
          refine tc_seq ?_
          refine tc_reg ?_
          refine tl_v rfl (o_assign rfl) ?_
          refine tl_nil ?_
          refine q_then_n ?_
          refine tc_ret ?_
          refine q_block_r (q_then_r (q_then_r (q_block_r (q_then_r ?_))))
          exact ⟨.bool false, res1 rfl rfl, by congr 1; simp; intro e; subst e; exact h rfl, rfl⟩
        · try simp only [decide_eq_true_eq, decide_eq_false_iff_not, Bool.not_eq_true', Bool.not_eq_false', Option.isNone_some, Option.isNone_none, Bool.not_true, Bool.not_false] at h
          refine tc_skip ?_
          refine q_block_n (q_then_n ?_)
          refine tc_reg ?_
          refine tl_v rfl (o_move rfl) ?_
          refine tl_v rfl (by first | exact o_addI rfl rfl (by omega) | exact o_add rfl rfl) ?_
          refine tl_v rfl (o_assign rfl) ?_
          refine tl_nil ?_
          refine q_then_n ?_
          exact ⟨_, by omega, rfl, i + 1, by omega, rfl, rfl, rfl, rfl, take_succ_eq hp (by omega) (by omega) (by omega)⟩
      · try simp only [decide_eq_true_eq, decide_eq_false_iff_not, Bool.not_eq_true', Bool.not_eq_false', Option.isNone_some, Option.isNone_none, Bool.not_true, Bool.not_false] at h
        refine tc_exit ?_
        refine q_then_e (q_then_e (q_block_x (q_then_n ?_)))
        refine tc_seq ?_
        refine tc_reg ?_
        refine tl_v rfl (o_assign rfl) ?_
        refine tl_nil ?_
        refine q_then_n ?_
        refine tc_ret ?_
        exact ⟨.bool true, res1 rfl rfl, by congr 1; simp; exact take_all hp (by omega) (by omega), rfl⟩

end Go.Vl

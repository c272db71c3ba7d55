/- persist.alive, persist.Range of no bytes, super.Read. Conditions: none. -/
import Derived.Test.YtimckjnnjakcoaaS9
import Derived.Test.YtimckjnnjakcoaaP6
set_option linter.unusedVariables false
set_option linter.unusedSimpArgs false
namespace Go.Vl
open Go Go.Proofs


def stE (s : DevS) : Int := if s.off = true then 5 else 0
theorem stE_rdy (s : DevS) (h : s.off = true) : rdy s.ls.length s.off 0 0 = 5 := by unfold rdy; rw [if_pos h]
theorem Load0_c {A R : SP} {C : SP → SP} {d : Nat} {s : DevS} (hc : Ct A (Dev d s) R C) : Fn Try.prog 27 #[.pointer (some ⟨d, 0, none⟩), .int .i64 0, .int .i64 0] A (fun r B => ∃ v : Value, r = .tuple #[v, .int .i64 (stE s)] ∧ A = B) := by
  by_cases h : s.off = true
  · have e : stE s = 5 := if_pos h
    have := LoadNo_c hc (p := 0) (m := 0) (by omega) (by omega) (by rw [stE_rdy s h]; decide)
    rw [stE_rdy s h] at this
    rw [e]
    exact this.mono fun _ _ ⟨h1, h2⟩ => ⟨_, h1, h2⟩
  · have e : stE s = 0 := if_neg h
    rw [e]
    intro g w hs
    refine (Load_c hc (p := 0) (m := 0) (by simpa using h) (by omega) g w hs).mono ?_
    rintro e w' ⟨v, B, rfl, ⟨a, c, rfl, _, rfl⟩, hB⟩
    exact ⟨_, _, rfl, ⟨_, rfl, rfl⟩, hB.left⟩

attribute [local irreducible] crk crL crc Sl pt ro mbs sbB planT Dev

theorem alive_c {A R : SP} {C : SP → SP} {d : Nat} {s : DevS} (hc : Ct A (Dev d s) R C := by repeat (first | with_reducible exact ct_here | apply ct_left)) :
    Fn Try.prog 119 #[.pointer (some ⟨d, 0, none⟩)] (A) (fun r B => r = .int .i64 (stE s) ∧ A = B) := by
  refine fn_enterW (args := [.pointer (some ⟨d, 0, none⟩)]) Try.func119 rfl Try.ntmps119 (by simp) ?_
  refine tc_seq ?_
  refine tc_reg ?_
  refine tl_v rfl (o_assign (by conv => lhs; whnf)) ?_
  refine tl_nil ?_
  refine q_then_n ?_
  refine tc_seq ?_
  refine tc_reg ?_
  refine tl_v rfl (o_move (by conv => lhs; whnf)) ?_
  refine tl_c rfl (o_call bd27 rfl (Load0_c hc)) ?_
  rintro _ _ ⟨v7, rfl, rfl⟩
  refine tl_v rfl (o_move (by conv => lhs; whnf)) ?_
  refine tl_v rfl (o_extract rfl rfl) ?_
  refine tl_v rfl (o_extract rfl rfl) ?_
  refine tl_v rfl (o_assign (by conv => lhs; whnf)) ?_
  refine tl_v rfl (o_assign (by conv => lhs; whnf)) ?_
  refine tl_nil ?_
  refine q_then_n ?_
  refine tc_seq ?_
  refine tc_reg ?_
  refine tl_v rfl (o_move (by conv => lhs; whnf)) ?_
  refine tl_v rfl (o_assign (by conv => lhs; whnf)) ?_
  refine tl_nil ?_
  refine q_then_n ?_
  refine tc_ret ?_
  exact ⟨.int .i64 (stE s), A, res1 rfl rfl, fun _ _ h => h, rfl, rfl⟩

theorem Range0_c {A R : SP} {C : SP → SP} {d : Nat} {s : DevS} (hc : Ct A (Dev d s) R C := by repeat (first | with_reducible exact ct_here | apply ct_left)) {at_ : Int} :
    Fn Try.prog 60 #[.pointer (some ⟨d, 0, none⟩), .int .i64 at_, .int .i64 0] (A) (fun r B => r = .int .i64 (stE s) ∧ A = B) := by
  refine fn_enterW (args := [.pointer (some ⟨d, 0, none⟩), .int .i64 at_, .int .i64 0]) Try.func60 rfl Try.ntmps60 (by simp) ?_
  refine tc_seq ?_
  refine tc_reg ?_
  refine tl_v rfl (o_assign (by conv => lhs; whnf)) ?_
  refine tl_nil ?_
  refine q_then_n ?_
  refine tc_seq ?_
  refine tc_seq ?_
  refine tc_reg ?_
  refine tl_v rfl (o_move (by conv => lhs; whnf)) ?_
  refine tl_c rfl (o_call bd119 rfl (alive_c hc)) ?_
  rintro _ _ ⟨rfl, rfl⟩
  refine tl_v rfl (o_assign (by conv => lhs; whnf)) ?_
  refine tl_nil ?_
  refine q_then_n ?_
  refine tc_seq ?_
  refine tc_reg ?_
  refine tl_v rfl (o_move (by conv => lhs; whnf)) ?_
  refine tl_v rfl (o_nei rfl rfl) ?_
  refine tl_nil ?_
  refine q_then_n ?_
  refine tc_cond rfl (fun h => ?_) (fun h => ?_)
  · try simp only [decide_eq_true_eq, decide_eq_false_iff_not, Bool.not_eq_true', Bool.not_eq_false', Option.isNone_some, Option.isNone_none, Bool.not_true, Bool.not_false] at h
    refine tc_seq ?_
    refine tc_reg ?_
    refine tl_v rfl (o_move (by conv => lhs; whnf)) ?_
    refine tl_v rfl (o_assign (by conv => lhs; whnf)) ?_
    refine tl_nil ?_
    refine q_then_n ?_
    refine tc_ret ?_
    refine q_then_r ?_
    first | exact ⟨.int .i64 (stE s), A, res1 rfl rfl, fun _ _ h => h, rfl, rfl⟩ | exact ⟨.int .i64 0, A, res1 rfl rfl, fun _ _ h => h, by rw [h0], rfl⟩
  · have h0 : stE s = 0 := by simpa using h
    refine tc_skip ?_
    refine q_then_n ?_
    refine tc_seq ?_
    refine tc_seq ?_
    refine tc_reg ?_
    refine tl_v rfl (o_move (by conv => lhs; whnf)) ?_
    refine tl_v rfl (o_lss rfl rfl) ?_
    refine tl_nil ?_
    refine q_then_n ?_
    refine tc_cond rfl (fun h => ?_) (fun h => ?_)
    · try simp only [decide_eq_true_eq, decide_eq_false_iff_not, Bool.not_eq_true', Bool.not_eq_false', Option.isNone_some, Option.isNone_none, Bool.not_true, Bool.not_false] at h
      refine tc_seq ?_
      refine tc_reg ?_
      refine tl_v rfl (o_assign (by conv => lhs; whnf)) ?_
      refine tl_nil ?_
      refine q_then_n ?_
      refine tc_ret ?_
      refine q_then_r ?_
      first | exact ⟨.int .i64 (stE s), A, res1 rfl rfl, fun _ _ h => h, rfl, rfl⟩ | exact ⟨.int .i64 0, A, res1 rfl rfl, fun _ _ h => h, by rw [h0], rfl⟩
    · (exfalso; first | (revert h; simp; done) | (simp at h; done) | (revert h; simp; omega) | (simp at h; omega) | omega)

theorem state_c {A R : SP} {C : SP → SP} {d : Nat} {s : DevS} (hc : Ct A (Dev d s) R C := by repeat (first | with_reducible exact ct_here | apply ct_left)) :
    Fn Try.prog 102 #[.pointer (some ⟨d, 0, none⟩)] (A) (fun r B => r = .int .i64 (stE s) ∧ A = B) := by
  refine fn_enterW (args := [.pointer (some ⟨d, 0, none⟩)]) Try.func102 rfl Try.ntmps102 (by simp) ?_
  refine tc_seq ?_
  refine tc_reg ?_
  refine tl_v rfl (o_assign (by conv => lhs; whnf)) ?_
  refine tl_nil ?_
  refine q_then_n ?_
  refine tc_seq ?_
  refine tc_reg ?_
  refine tl_v rfl (o_move (by conv => lhs; whnf)) ?_
  refine tl_c rfl (o_call bd60 rfl (Range0_c hc)) ?_
  rintro _ _ ⟨rfl, rfl⟩
  refine tl_v rfl (o_assign (by conv => lhs; whnf)) ?_
  refine tl_nil ?_
  refine q_then_n ?_
  refine tc_ret ?_
  exact ⟨.int .i64 (stE s), A, res1 rfl rfl, fun _ _ h => h, rfl, rfl⟩

end Go.Vl
